import Derived.Test.YtkbgmojomgelbaaGreatMFnExactGrammarOkx0
import Derived.Test.YtkbgmojomgelbaaGreatMFnExactGrammarOkx12
import Derived.Test.YtkbgmojomgelbaaGreatMFnExactGrammarOkx13
namespace Go.Proofs.YtkbgmojomgelbaaGreat.MFnExactGrammarOk
open Go.RowKit Go.Proofs.YtkbgmojomgelbaaGreatW.PrintWords Go.Proofs.YtkbgmojomgelbaaGreatW.PrintLast Go.Proofs.YtkbgmojomgelbaaGreatW.PrintMore
attribute [local go_sem] max2_int min2_int max_two min_two max_three min_three max_four min_four
set_option linter.unusedVariables false
set_option linter.unusedSimpArgs false
set_option maxHeartbeats 8000000
set_option maxRecDepth 100000

mutual
def impl_readSet.l0 : Nat → ByteArray → List Int → Int → Option (List Int × Bool)
 |0,_,_,_ => none
 |k + 1,x0,x4,x5 => if x5 < (x0.size : Int) then (if 0 ≤ x5 then (if (wrap64 (x5 + 1)) < (x0.size : Int) then (if 0 ≤ (wrap64 (x5 + 1)) then (impl_readSet.j1 k x0 x4 (wrap64 (x5 + 1)) (bt x0 x5) (bt x0 x5) ((bt x0 (wrap64 (x5 + 1))) == 45)) else (none)) else (impl_readSet.j1 k x0 x4 (wrap64 (x5 + 1)) (bt x0 x5) (bt x0 x5) false)) else (none)) else ((slices_Sort_byte_byte.f x4).bind fun t361 => ((slices_Compact_byte_byte.f t361).bind fun t362 => ((impl_within.f (x0.size : Int) 1 12).bind fun t365 => (some (t362,t365)))))
def impl_readSet.j1 : Nat → ByteArray → List Int → Int → Int → Int → Bool → Option (List Int × Bool)
 |0,_,_,_,_,_,_ => none
 |k + 1,x0,x4,x5,x6,x7,x31 => if x31 = true then (if (wrap64 (x5 + 1)) = (x0.size : Int) then (some (([] : List Int),false)) else (if 0 ≤ (wrap64 (x5 + 1)) then (if (wrap64 (x5 + 1)) < (x0.size : Int) then (impl_readSet.j2 k x0 x4 (wrap64 (x5 + 2)) x6 (bt x0 (wrap64 (x5 + 1)))) else (none)) else (none))) else (impl_readSet.j2 k x0 x4 x5 x6 x7)
def impl_readSet.j2 : Nat → ByteArray → List Int → Int → Int → Int → Option (List Int × Bool)
 |0,_,_,_,_,_ => none
 |k + 1,x0,x4,x5,x6,x7 => (impl_isSetByte.f x6).bind fun t366 => (if t366 = true then ((impl_isSetByte.f x7).bind fun t367 => (if t367 = true then ((impl_isSmall.f x6).bind fun t368 => ((impl_isSmall.f x7).bind fun t369 => (if (t368 != t369) = true then (impl_readSet.j3 k x0 x4 x5 x6 x7 true) else (impl_readSet.j3 k x0 x4 x5 x6 x7 (decide (x7 < x6)))))) else (impl_readSet.j3 k x0 x4 x5 x6 x7 true))) else (impl_readSet.j3 k x0 x4 x5 x6 x7 true))
def impl_readSet.j3 : Nat → ByteArray → List Int → Int → Int → Int → Bool → Option (List Int × Bool)
 |0,_,_,_,_,_,_ => none
 |k + 1,x0,x4,x5,x6,x7,x62 => if x62 = true then (some (([] : List Int),false)) else (impl_readSet.l1 k x0 x4 x5 x7 (wrap64 (x6)))
def impl_readSet.l1 : Nat → ByteArray → List Int → Int → Int → Int → Option (List Int × Bool)
 |0,_,_,_,_,_ => none
 |k + 1,x0,x4,x5,x7,x8 => if x8 ≤ (wrap64 (x7)) then (if x4.length < 140737488355328 then (impl_readSet.l1 k x0 (x4 ++ [(x8) % 256]) x5 x7 (wrap64 (x8 + 1))) else (none)) else (impl_readSet.l0 k x0 x4 x5)
end
def impl_readSet.f (k : Nat) (a0 : ByteArray) : Option (List Int × Bool):=impl_readSet.l0 k a0 (([] : List Int)) 0
theorem impl_readSet.calls (k : Nat) (a0 : ByteArray) (r1 : List Int) (r2 : Bool) (w : World) (h : impl_readSet.f k a0 = some (r1,r2)) :
  Calls Tryz.prog 98 #[.string a0] w fun e w' => ∃ v0_ : Value,e = .returned (.tuple #[v0_,.bool r2]) ∧ Kd.R (Kd.int .u8) 5 w' w.heap.size (fun _ => True) v0_ r1 ∧ Below w.heap.size w w':=by
 have HB:=zm_ (Below.refl w.heap.size w)
 have H : (impl_readSet.l0 k a0 (([] : List Int)) 0) = some (r1,r2):=h
 clear h
 obtain ⟨y358,hy358⟩ : ∃ y_ : List Int,y_ = (([] : List Int)):=⟨_,rfl⟩
 replace H : (impl_readSet.l0 k a0 y358 0) = some (r1,r2):=by first|(rw [hy358];with_reducible exact H)|(have H2_:=(Option.bind_some _ _).symm.trans H;rw [hy358];with_reducible exact H2_)|(have H2_:=(Option.bind_some _ _).symm.trans H;with_reducible exact H2_)|with_reducible exact H|(rw [hy358];exact H)|exact H
 have Ny358:=zm_ hy358
 clear hy358
 have H':=zm_ H
 clear H
 go_enter Tryz.func98,Tryz.ntmps98
 go_wp2_with (first|((with_reducible refine gate_dst (N:=9) rfl ?_);refine Kd.R_lit (Kd.int .u8) _ 5 ?hg (N:=9) ?hd (xs:=([] : List Int)) (inner:=[]) (ok:=fun _ => True) (okp:=fun _ => True) ?hr ?hp (fun _ hk => hk) trivial (Below.refl _ _) (Nat.le_refl _) (by simp) ?_;(case hd => rfl);(case hg => rfl);(case hr => first|(go_simp;done)|(go_simp;rfl));(case hp => exact (Reps.none _ _));intro v359 w2 ho3 hb hg_ hnew_;clear hg_ hnew_;(first|rw [← Ny358.out] at ho3|(simp only [Int.reduceToNat] at ho3;rw [← Ny358.out] at ho3));have n0_:=zm_ (Kd.R_lower ho3 (below_size zB_));have n1_:=zm_ (below_step zB_ hb);clear HB;have HO360:=n0_;have HB:=n1_;clear n0_ n1_;clear hb ho3))
 repeat (go_quiet (first|((with_reducible refine gate_dst (N:=9) rfl ?_);refine Kd.R_lit (Kd.int .u8) _ 5 ?hg (N:=9) ?hd (xs:=([] : List Int)) (inner:=[]) (ok:=fun _ => True) (okp:=fun _ => True) ?hr ?hp (fun _ hk => hk) trivial (Below.refl _ _) (Nat.le_refl _) (by simp) ?_;(case hd => rfl);(case hg => rfl);(case hr => first|(go_simp;done)|(go_simp;rfl));(case hp => exact (Reps.none _ _));intro v359 w2 ho3 hb hg_ hnew_;clear hg_ hnew_;(first|rw [← Ny358.out] at ho3|(simp only [Int.reduceToNat] at ho3;rw [← Ny358.out] at ho3));have n0_:=zm_ (Kd.R_lower ho3 (below_size zB_));have n1_:=zm_ (below_step zB_ hb);clear HB;have HO360:=n0_;have HB:=n1_;clear n0_ n1_;clear hb ho3));try go_wp2_with (first|((with_reducible refine gate_dst (N:=9) rfl ?_);refine Kd.R_lit (Kd.int .u8) _ 5 ?hg (N:=9) ?hd (xs:=([] : List Int)) (inner:=[]) (ok:=fun _ => True) (okp:=fun _ => True) ?hr ?hp (fun _ hk => hk) trivial (Below.refl _ _) (Nat.le_refl _) (by simp) ?_;(case hd => rfl);(case hg => rfl);(case hr => first|(go_simp;done)|(go_simp;rfl));(case hp => exact (Reps.none _ _));intro v359 w2 ho3 hb hg_ hnew_;clear hg_ hnew_;(first|rw [← Ny358.out] at ho3|(simp only [Int.reduceToNat] at ho3;rw [← Ny358.out] at ho3));have n0_:=zm_ (Kd.R_lower ho3 (below_size zB_));have n1_:=zm_ (below_step zB_ hb);clear HB;have HO360:=n0_;have HB:=n1_;clear n0_ n1_;clear hb ho3)))
 go_loopg [4,5] k (fun kq v4 v5 w' => ∃ (x4_1 : List Int) (x5_1 : Int),v5 = .int .i64 x5_1 ∧ Aside0 (impl_readSet.l0 kq a0 x4_1 x5_1 = some (r1,r2)) ∧ Aside0 (kq ≤ k) ∧ Aside0 (Kd.R (Kd.int .u8) 5 w' w.heap.size (fun _ => True) v4 x4_1) ∧ Aside0 (Below w.heap.size w w'))
 case atStart => exact ⟨(y358),(0),zV_,H',⟨Nat.le_refl _⟩,⟨zO_⟩,⟨zG_⟩⟩
 case round =>
  clear H'
  obtain ⟨x4_1,x5_1,rfl,HA,HK1,HO_4,HB⟩:=hrel
  cases gk with
  |zero => exact absurd HA.out (by simp [impl_readSet.l0])
  |succ k1 =>
   have H:=HA.out
   clear HA
   simp only [impl_readSet.l0] at H
   by_cases c4 : x5_1 < (a0.size : Int)
   rotate_left
   ·rw [if_neg c4] at H
    have c4b0:=decide_eq_false c4
    clear c4
    obtain ⟨t361,A32,H⟩:=zJ_ H
    try dsimp only at H
    obtain ⟨t362,A33,H⟩:=zJ_ H
    try dsimp only at H
    obtain ⟨t365,A34,H⟩:=zJ_ H
    try dsimp only at H
    simp only [Option.some.injEq,Prod.mk.injEq] at H
    obtain ⟨rfl,rfl⟩:=H
    obtain ⟨Ao35,co35,eo35⟩:=Kd.R_slice HO_4.out
    subst eo35
    have tk_ : True:=trivial
    repeat ((first|go_quiet (first|(go_at_call 121;(with_reducible refine (slices_Sort_byte_byte.calls (fun k_ => some k_ = (.slice Ao35 x4_1.length co35 : Value).ownBlock) (.slice Ao35 x4_1.length co35) x4_1 t361 w _ ?side1 ?side2 A32.out).mono ?_);(case side1 => repeat (first|(with_reducible first|exact HB.out|apply za_|apply zn_|apply zd_)|exact HB.out));(case side2 => exact Kd.R_tight rfl HO_4.out);rintro e w36 ⟨rfl,hy0,hb,hkp⟩;have n0_:=zm_ (Kd.R_reok rfl hy0 (fun k_ e_ => HO_4.out.1 k_ e_));have n1_:=zm_ (hb);clear HO_4;clear HB;have HO_4:=n0_;have HB:=n1_;clear n0_ n1_;(try clear hb);(try clear hkp);(try clear hy0))|(go_at_call 122;(with_reducible refine (slices_Compact_byte_byte.calls (fun k_ => some k_ = (.slice Ao35 x4_1.length co35 : Value).ownBlock) (.slice Ao35 x4_1.length co35) t361 t362 w _ ?side1 ?side2 A33.out).mono ?_);(case side1 => repeat (first|(with_reducible first|exact HB.out|apply za_|apply zn_|apply zd_)|exact HB.out));(case side2 => exact Kd.R_tight rfl HO_4.out);rintro e w37 ⟨v363,rfl,ho0,hb,hkp⟩;have n0_:=zm_ (Kd.R_mono (ok':=fun k_ => True) ho0 (fun k_ hk_ => trivial));have n1_:=zm_ (hb);clear HB;clear HO_4;have HO364:=n0_;have HB:=n1_;clear n0_ n1_;(try clear hb);(try clear hkp);(try clear ho0))|(go_at_call 20;(with_reducible refine (impl_within.calls (a0.size : Int) 1 12 t365 _ A34.out).mono ?_);rintro e w' ⟨rfl,⟨nd,rfl⟩⟩;(try exact zY_)))|clear tk_);try go_wp2_with (first|(go_at_call 121;(with_reducible refine (slices_Sort_byte_byte.calls (fun k_ => some k_ = (.slice Ao35 x4_1.length co35 : Value).ownBlock) (.slice Ao35 x4_1.length co35) x4_1 t361 w _ ?side1 ?side2 A32.out).mono ?_);(case side1 => repeat (first|(with_reducible first|exact HB.out|apply za_|apply zn_|apply zd_)|exact HB.out));(case side2 => exact Kd.R_tight rfl HO_4.out);rintro e w36 ⟨rfl,hy0,hb,hkp⟩;have n0_:=zm_ (Kd.R_reok rfl hy0 (fun k_ e_ => HO_4.out.1 k_ e_));have n1_:=zm_ (hb);clear HO_4;clear HB;have HO_4:=n0_;have HB:=n1_;clear n0_ n1_;(try clear hb);(try clear hkp);(try clear hy0))|(go_at_call 122;(with_reducible refine (slices_Compact_byte_byte.calls (fun k_ => some k_ = (.slice Ao35 x4_1.length co35 : Value).ownBlock) (.slice Ao35 x4_1.length co35) t361 t362 w _ ?side1 ?side2 A33.out).mono ?_);(case side1 => repeat (first|(with_reducible first|exact HB.out|apply za_|apply zn_|apply zd_)|exact HB.out));(case side2 => exact Kd.R_tight rfl HO_4.out);rintro e w37 ⟨v363,rfl,ho0,hb,hkp⟩;have n0_:=zm_ (Kd.R_mono (ok':=fun k_ => True) ho0 (fun k_ hk_ => trivial));have n1_:=zm_ (hb);clear HB;clear HO_4;have HO364:=n0_;have HB:=n1_;clear n0_ n1_;(try clear hb);(try clear hkp);(try clear ho0))|(go_at_call 20;(with_reducible refine (impl_within.calls (a0.size : Int) 1 12 t365 _ A34.out).mono ?_);rintro e w' ⟨rfl,⟨nd,rfl⟩⟩;(try exact zY_))))
    go_ret2
    exact ⟨_,by first|rfl|(simp [errW_none,errW_some] <;> rfl)|(simp [*,errW_none,errW_some] <;> rfl),by (with_reducible repeat (first|apply Kd.R_alloc|apply Kd.R_drewN|apply Kd.R_drew));exact HO364.out,zG_⟩


   rw [if_pos c4] at H
   have c4b0:=decide_eq_true c4
   clear c4
   by_cases c5 : 0 ≤ x5_1
   rotate_left
   ·rw [if_neg c5] at H
    cases H
   rw [if_pos c5] at H
   have c5b0:=decide_eq_true c5
   clear c5
   have HC8:=zm_ H
   clear H
   have p6 : 0 ≤ (x5_1 : Int):=zo_
   have q6 : x5_1 < (a0.size : Int):=zo_
   have hx6:=bt_at a0 x5_1
   replace p6:=eq_true p6
   replace q6:=eq_true q6
   have p7 : 0 ≤ (x5_1 : Int):=zo_
   have q7 : x5_1 < (a0.size : Int):=zo_
   have hx7:=bt_at a0 x5_1
   replace p7:=eq_true p7
   replace q7:=eq_true q7
   go_upto_region 6 with (fail)
   repeat (go_quiet (fail);go_upto_region 6 with (fail))
   go_cut [31] (fun v31 wc => ∃ (kq : Nat) (x31_7 : Bool),v31 = .bool x31_7 ∧ Aside0 (impl_readSet.j1 kq a0 x4_1 (wrap64 (x5_1 + 1)) (bt a0 x5_1) (bt a0 x5_1) x31_7 = some (r1,r2)) ∧ Aside0 (kq ≤ k1) ∧ Aside0 (Kd.R (Kd.int .u8) 5 wc w.heap.size (fun _ => True) u4 x4_1) ∧ Aside0 (Below w.heap.size w wc))
   case first =>
    have H:=HC8.out
    clear HC8
    by_cases c9 : (wrap64 (x5_1 + 1)) < (a0.size : Int)
    rotate_left
    ·rw [if_neg c9] at H
     have c9b0:=decide_eq_false c9
     clear c9
     (first|rw [c9b0]|(simp only [i64_w,i32_w];rw [c9b0])|skip)
     have H':=zm_ H
     clear H
     go_wp2
     repeat (go_quiet (fail);try go_wp2)
     go_meet
     case rel => exact ⟨_,(false),zV_,H',⟨by have:=HK1.out;first|omega|exact Nat.le_refl _⟩,⟨zO_⟩,⟨zG_⟩⟩
    rw [if_pos c9] at H
    have c9b0:=decide_eq_true c9
    clear c9
    (first|rw [c9b0]|(simp only [i64_w,i32_w];rw [c9b0])|skip)
    obtain ⟨ji10,hji10⟩ : ∃ j_ : Int,(wrap64 (x5_1 + 1)) = j_:=⟨_,rfl⟩
    replace H : (if 0 ≤ (ji10) then (impl_readSet.j1 k1 a0 x4_1 ji10 (bt a0 x5_1) (bt a0 x5_1) ((bt a0 (ji10)) == 45)) else (none)) = some (r1,r2):=by first|(rw [hji10] at H;exact H)|(simp only [hji10] at H ⊢;exact H)
    (try rw [hji10] at c9b0)
    have hji10w : (IntKind.i64.wrap (x5_1 + 1)) = ji10:=(i64_w _).trans hji10
    by_cases c11 : 0 ≤ (ji10)
    rotate_left
    ·rw [if_neg c11] at H
     cases H
    rw [if_pos c11] at H
    have c11b0:=decide_eq_true c11
    clear c11
    have H':=zm_ H
    clear H
    have p12 : 0 ≤ ((ji10) : Int):=zo_
    have q12 : (ji10) < (a0.size : Int):=zo_
    have hx12:=bt_at a0 (ji10)
    replace p12:=eq_true p12
    replace q12:=eq_true q12
    go_wp2
    repeat (go_quiet (fail);try go_wp2)
    go_meet
    case rel => exact ⟨_,(((bt a0 (ji10)) == 45)),(by first|rfl|(exact congrArg Value.bool (isEmpty_ne _))|(exact congrArg Value.bool (isEmpty_ne' _))|(exact congrArg Value.bool (isEmpty_eq _))|(simp;done)|(simp only [← hji10] <;> (first|rfl|simp))|(simp [*];done)),(by first|exact H'|(rw [hji10];exact H')|(simp only [hji10];exact H')),⟨by have:=HK1.out;first|omega|exact Nat.le_refl _⟩,⟨zO_⟩,⟨zG_⟩⟩
   case rest =>
    clear HC8
    obtain ⟨kq,x31_7,rfl,HA,HJ7,HO_4,HB⟩:=hcut
    cases kq with
    |zero => exact absurd HA.out (by simp [impl_readSet.j1])
    |succ kj7 =>
     have H:=HA.out
     clear HA
     simp only [impl_readSet.j1] at H
     have HC13:=zm_ H
     clear H
     go_upto_if 31 with (fail)
     repeat (go_quiet (fail);go_upto_if 31 with (fail))
     go_cut [5,7] (fun v5 v7 wc => ∃ (kq : Nat) (x5_12 : Int) (x7_12 : Int),v5 = .int .i64 x5_12 ∧ v7 = .int .u8 x7_12 ∧ Aside0 (impl_readSet.j2 kq a0 x4_1 x5_12 (bt a0 x5_1) x7_12 = some (r1,r2)) ∧ Aside0 (kq ≤ kj7) ∧ Aside0 (Kd.R (Kd.int .u8) 5 wc w.heap.size (fun _ => True) u4 x4_1) ∧ Aside0 (Below w.heap.size w wc))
     case first =>
      have H:=HC13.out
      clear HC13
      by_cases c14 : x31_7 = true
      rotate_left
      ·replace c14:=Bool.eq_false_iff.mpr c14
       subst c14
       rw [zF_] at H
       have H':=zm_ H
       clear H
       go_wp2
       repeat (go_quiet (fail);try go_wp2)
       go_meet
       case rel => exact ⟨_,((wrap64 (x5_1 + 1))),((bt a0 x5_1)),zV_,zV_,H',⟨by have:=HK1.out;have:=HJ7.out;first|omega|exact Nat.le_refl _⟩,⟨zO_⟩,⟨zG_⟩⟩
      subst c14
      rw [if_pos rfl] at H
      by_cases c15 : (wrap64 ((wrap64 (x5_1 + 1)) + 1)) = (a0.size : Int)
      ·rw [if_pos c15] at H
       have c15b0 : ((wrap64 ((wrap64 (x5_1 + 1)) + 1)) == (a0.size : Int)) = true:=beq_iff_eq.mpr c15
       have c15b1 : ((wrap64 ((wrap64 (x5_1 + 1)) + 1)) != (a0.size : Int)) = false:=bne_eq_false_iff_eq.mpr c15
       clear c15
       (first|rw [c15b0]|(simp only [i64_w,i32_w];rw [c15b0])|skip)
       simp only [Option.some.injEq,Prod.mk.injEq] at H
       obtain ⟨rfl,rfl⟩:=H
       go_wp2
       repeat (go_quiet (fail);try go_wp2)
       go_ret2
       exact ⟨_,by first|rfl|(simp [errW_none,errW_some] <;> rfl)|(simp [*,errW_none,errW_some] <;> rfl),by first|exact Kd.R_nil _ _ _ _ _|exact Kd.N_nil _ _ _ _ _|exact Kd.V_nil _ _ _ _ _|exact Kd.Q_nil _ _ _ _ _|exact Kd.S_nil _ _ _ _ _,zG_⟩
      rw [if_neg c15] at H
      have c15b0 : ((wrap64 ((wrap64 (x5_1 + 1)) + 1)) == (a0.size : Int)) = false:=beq_eq_false_iff_ne.mpr c15
      have c15b1 : ((wrap64 ((wrap64 (x5_1 + 1)) + 1)) != (a0.size : Int)) = true:=bne_iff_ne.mpr c15
      (first|rw [c15b0]|(simp only [i64_w,i32_w];rw [c15b0])|skip)
      obtain ⟨ji16,hji16⟩ : ∃ j_ : Int,(wrap64 ((wrap64 (x5_1 + 1)) + 1)) = j_:=⟨_,rfl⟩
      replace H : (if 0 ≤ (ji16) then (if (ji16) < (a0.size : Int) then (impl_readSet.j2 kj7 a0 x4_1 (wrap64 ((wrap64 (x5_1 + 1)) + 2)) (bt a0 x5_1) (bt a0 (ji16))) else (none)) else (none)) = some (r1,r2):=by first|(rw [hji16] at H;exact H)|(simp only [hji16] at H ⊢;exact H)
      (try rw [hji16] at c15b0)
      (try rw [hji16] at c15b1)
      have hji16w : (IntKind.i64.wrap ((wrap64 (x5_1 + 1)) + 1)) = ji16:=(i64_w _).trans hji16
      by_cases c17 : 0 ≤ (ji16)
      rotate_left
      ·rw [if_neg c17] at H
       cases H
      rw [if_pos c17] at H
      have c17b0:=decide_eq_true c17
      clear c17
      by_cases c18 : (ji16) < (a0.size : Int)
      rotate_left
      ·rw [if_neg c18] at H
       cases H
      rw [if_pos c18] at H
      have c18b0:=decide_eq_true c18
      clear c18
      have H':=zm_ H
      clear H
      have p19 : 0 ≤ ((ji16) : Int):=zo_
      have q19 : (ji16) < (a0.size : Int):=zo_
      have hx19:=bt_at a0 (ji16)
      replace p19:=eq_true p19
      replace q19:=eq_true q19
      go_wp2
      repeat (go_quiet (fail);try go_wp2)
      go_meet
      case rel => exact ⟨_,(wrap64 ((wrap64 (x5_1 + 1)) + 2)),(bt a0 (ji16)),zV_,(by first|rfl|(exact congrArg Value.bool (isEmpty_ne _))|(exact congrArg Value.bool (isEmpty_ne' _))|(exact congrArg Value.bool (isEmpty_eq _))|(simp;done)|(simp only [← hji16] <;> (first|rfl|simp))|(simp [*];done)),(by first|exact H'|(rw [hji16];exact H')|(simp only [hji16];exact H')),⟨by have:=HK1.out;have:=HJ7.out;first|omega|exact Nat.le_refl _⟩,⟨zO_⟩,⟨zG_⟩⟩
     case rest =>
      clear HC13
      obtain ⟨kq,x5_12,x7_12,rfl,rfl,HA,HJ12,HO_4,HB⟩:=hcut
      cases kq with
      |zero => exact absurd HA.out (by simp [impl_readSet.j2])
      |succ kj12 =>
       have H:=HA.out
       clear HA
       simp only [impl_readSet.j2] at H
       have HC20:=zm_ H
       clear H
       go_upto_region 11 with (fail)
       repeat (go_quiet (fail);go_upto_region 11 with (fail))
       go_cut [62] (fun v62 wc => ∃ (kq : Nat) (x62_19 : Bool),v62 = .bool x62_19 ∧ Aside0 (impl_readSet.j3 kq a0 x4_1 x5_12 (bt a0 x5_1) x7_12 x62_19 = some (r1,r2)) ∧ Aside0 (kq ≤ kj12) ∧ Aside0 (Kd.R (Kd.int .u8) 5 wc w.heap.size (fun _ => True) u4 x4_1) ∧ Aside0 (Below w.heap.size w wc))
       case first =>
        have H:=HC20.out
        clear HC20
        obtain ⟨t366,A21,H⟩:=zJ_ H
        try dsimp only at H
        by_cases c22 : t366 = true
        rotate_left
        ·replace c22:=Bool.eq_false_iff.mpr c22
         subst c22
         rw [zF_] at H
         have H':=zm_ H
         clear H
         go_wp2_with (first|(go_at_call 96;(with_reducible refine (impl_isSetByte.calls (bt a0 x5_1) false _ A21.out).mono ?_);rintro e w' ⟨rfl,⟨nd,rfl⟩⟩;(try exact zY_)))
         repeat (go_quiet (first|(go_at_call 96;(with_reducible refine (impl_isSetByte.calls (bt a0 x5_1) false _ A21.out).mono ?_);rintro e w' ⟨rfl,⟨nd,rfl⟩⟩;(try exact zY_)));try go_wp2_with (first|(go_at_call 96;(with_reducible refine (impl_isSetByte.calls (bt a0 x5_1) false _ A21.out).mono ?_);rintro e w' ⟨rfl,⟨nd,rfl⟩⟩;(try exact zY_))))
         go_meet
         case rel => exact ⟨_,(true),zV_,H',⟨by have:=HK1.out;have:=HJ7.out;have:=HJ12.out;first|omega|exact Nat.le_refl _⟩,⟨zO_⟩,⟨zG_⟩⟩
        subst c22
        rw [if_pos rfl] at H
        obtain ⟨t367,A23,H⟩:=zJ_ H
        try dsimp only at H
        by_cases c24 : t367 = true
        rotate_left
        ·replace c24:=Bool.eq_false_iff.mpr c24
         subst c24
         rw [zF_] at H
         have H':=zm_ H
         clear H
         go_wp2_with (first|(go_at_call 96;(with_reducible refine (impl_isSetByte.calls (bt a0 x5_1) true _ A21.out).mono ?_);rintro e w' ⟨rfl,⟨nd,rfl⟩⟩;(try exact zY_))|(go_at_call 96;(with_reducible refine (impl_isSetByte.calls x7_12 false _ A23.out).mono ?_);rintro e w' ⟨rfl,⟨nd,rfl⟩⟩;(try exact zY_)))
         repeat (go_quiet (first|(go_at_call 96;(with_reducible refine (impl_isSetByte.calls (bt a0 x5_1) true _ A21.out).mono ?_);rintro e w' ⟨rfl,⟨nd,rfl⟩⟩;(try exact zY_))|(go_at_call 96;(with_reducible refine (impl_isSetByte.calls x7_12 false _ A23.out).mono ?_);rintro e w' ⟨rfl,⟨nd,rfl⟩⟩;(try exact zY_)));try go_wp2_with (first|(go_at_call 96;(with_reducible refine (impl_isSetByte.calls (bt a0 x5_1) true _ A21.out).mono ?_);rintro e w' ⟨rfl,⟨nd,rfl⟩⟩;(try exact zY_))|(go_at_call 96;(with_reducible refine (impl_isSetByte.calls x7_12 false _ A23.out).mono ?_);rintro e w' ⟨rfl,⟨nd,rfl⟩⟩;(try exact zY_))))
         go_meet
         case rel => exact ⟨_,(true),zV_,H',⟨by have:=HK1.out;have:=HJ7.out;have:=HJ12.out;first|omega|exact Nat.le_refl _⟩,⟨zO_⟩,⟨zG_⟩⟩
        subst c24
        rw [if_pos rfl] at H
        obtain ⟨t368,A25,H⟩:=zJ_ H
        try dsimp only at H
        obtain ⟨t369,A26,H⟩:=zJ_ H
        try dsimp only at H
        by_cases c27 : (t368 != t369) = true
        rotate_left
        ·rw [if_neg c27] at H
         have c27b0 : (t368 != t369) = false:=by simpa using c27
         (try (have c27b1 : decide (t368 = t369) = true:=by simpa using c27))
         (try (have c27b2 : (t368 == t369) = true:=by simpa using c27))
         clear c27
         (first|rw [c27b0]|(simp only [i64_w,i32_w];rw [c27b0])|skip)
         have H':=zm_ H
         clear H
         go_wp2_with (first|(go_at_call 96;(with_reducible refine (impl_isSetByte.calls (bt a0 x5_1) true _ A21.out).mono ?_);rintro e w' ⟨rfl,⟨nd,rfl⟩⟩;(try exact zY_))|(go_at_call 96;(with_reducible refine (impl_isSetByte.calls x7_12 true _ A23.out).mono ?_);rintro e w' ⟨rfl,⟨nd,rfl⟩⟩;(try exact zY_))|(go_at_call 72;(with_reducible refine (impl_isSmall.calls (bt a0 x5_1) t368 _ A25.out).mono ?_);rintro e w' ⟨rfl,⟨nd,rfl⟩⟩;(try exact zY_))|(go_at_call 72;(with_reducible refine (impl_isSmall.calls x7_12 t369 _ A26.out).mono ?_);rintro e w' ⟨rfl,⟨nd,rfl⟩⟩;(try exact zY_)))
         repeat (go_quiet (first|(go_at_call 96;(with_reducible refine (impl_isSetByte.calls (bt a0 x5_1) true _ A21.out).mono ?_);rintro e w' ⟨rfl,⟨nd,rfl⟩⟩;(try exact zY_))|(go_at_call 96;(with_reducible refine (impl_isSetByte.calls x7_12 true _ A23.out).mono ?_);rintro e w' ⟨rfl,⟨nd,rfl⟩⟩;(try exact zY_))|(go_at_call 72;(with_reducible refine (impl_isSmall.calls (bt a0 x5_1) t368 _ A25.out).mono ?_);rintro e w' ⟨rfl,⟨nd,rfl⟩⟩;(try exact zY_))|(go_at_call 72;(with_reducible refine (impl_isSmall.calls x7_12 t369 _ A26.out).mono ?_);rintro e w' ⟨rfl,⟨nd,rfl⟩⟩;(try exact zY_)));try go_wp2_with (first|(go_at_call 96;(with_reducible refine (impl_isSetByte.calls (bt a0 x5_1) true _ A21.out).mono ?_);rintro e w' ⟨rfl,⟨nd,rfl⟩⟩;(try exact zY_))|(go_at_call 96;(with_reducible refine (impl_isSetByte.calls x7_12 true _ A23.out).mono ?_);rintro e w' ⟨rfl,⟨nd,rfl⟩⟩;(try exact zY_))|(go_at_call 72;(with_reducible refine (impl_isSmall.calls (bt a0 x5_1) t368 _ A25.out).mono ?_);rintro e w' ⟨rfl,⟨nd,rfl⟩⟩;(try exact zY_))|(go_at_call 72;(with_reducible refine (impl_isSmall.calls x7_12 t369 _ A26.out).mono ?_);rintro e w' ⟨rfl,⟨nd,rfl⟩⟩;(try exact zY_))))
         go_meet
         case rel => exact ⟨_,(decide (x7_12 < (bt a0 x5_1))),zV_,H',⟨by have:=HK1.out;have:=HJ7.out;have:=HJ12.out;first|omega|exact Nat.le_refl _⟩,⟨zO_⟩,⟨zG_⟩⟩
        rw [if_pos c27] at H
        have c27b0 : (t368 != t369) = true:=c27
        (try (have c27b1 : decide (t368 = t369) = false:=by simpa using c27))
        (try (have c27b2 : (t368 == t369) = false:=by simpa using c27))
        (try (have c27b3 : ¬ (t368 = t369):=by simpa using c27))
        clear c27
        (first|rw [c27b0]|(simp only [i64_w,i32_w];rw [c27b0])|skip)
        have H':=zm_ H
        clear H
        go_wp2_with (first|(go_at_call 96;(with_reducible refine (impl_isSetByte.calls (bt a0 x5_1) true _ A21.out).mono ?_);rintro e w' ⟨rfl,⟨nd,rfl⟩⟩;(try exact zY_))|(go_at_call 96;(with_reducible refine (impl_isSetByte.calls x7_12 true _ A23.out).mono ?_);rintro e w' ⟨rfl,⟨nd,rfl⟩⟩;(try exact zY_))|(go_at_call 72;(with_reducible refine (impl_isSmall.calls (bt a0 x5_1) t368 _ A25.out).mono ?_);rintro e w' ⟨rfl,⟨nd,rfl⟩⟩;(try exact zY_))|(go_at_call 72;(with_reducible refine (impl_isSmall.calls x7_12 t369 _ A26.out).mono ?_);rintro e w' ⟨rfl,⟨nd,rfl⟩⟩;(try exact zY_)))
        repeat (go_quiet (first|(go_at_call 96;(with_reducible refine (impl_isSetByte.calls (bt a0 x5_1) true _ A21.out).mono ?_);rintro e w' ⟨rfl,⟨nd,rfl⟩⟩;(try exact zY_))|(go_at_call 96;(with_reducible refine (impl_isSetByte.calls x7_12 true _ A23.out).mono ?_);rintro e w' ⟨rfl,⟨nd,rfl⟩⟩;(try exact zY_))|(go_at_call 72;(with_reducible refine (impl_isSmall.calls (bt a0 x5_1) t368 _ A25.out).mono ?_);rintro e w' ⟨rfl,⟨nd,rfl⟩⟩;(try exact zY_))|(go_at_call 72;(with_reducible refine (impl_isSmall.calls x7_12 t369 _ A26.out).mono ?_);rintro e w' ⟨rfl,⟨nd,rfl⟩⟩;(try exact zY_)));try go_wp2_with (first|(go_at_call 96;(with_reducible refine (impl_isSetByte.calls (bt a0 x5_1) true _ A21.out).mono ?_);rintro e w' ⟨rfl,⟨nd,rfl⟩⟩;(try exact zY_))|(go_at_call 96;(with_reducible refine (impl_isSetByte.calls x7_12 true _ A23.out).mono ?_);rintro e w' ⟨rfl,⟨nd,rfl⟩⟩;(try exact zY_))|(go_at_call 72;(with_reducible refine (impl_isSmall.calls (bt a0 x5_1) t368 _ A25.out).mono ?_);rintro e w' ⟨rfl,⟨nd,rfl⟩⟩;(try exact zY_))|(go_at_call 72;(with_reducible refine (impl_isSmall.calls x7_12 t369 _ A26.out).mono ?_);rintro e w' ⟨rfl,⟨nd,rfl⟩⟩;(try exact zY_))))
        go_meet
        case rel => exact ⟨_,(true),zV_,H',⟨by have:=HK1.out;have:=HJ7.out;have:=HJ12.out;first|omega|exact Nat.le_refl _⟩,⟨zO_⟩,⟨zG_⟩⟩
       case rest =>
        clear HC20
        obtain ⟨kq,x62_19,rfl,HA,HJ19,HO_4,HB⟩:=hcut
        cases kq with
        |zero => exact absurd HA.out (by simp [impl_readSet.j3])
        |succ kj19 =>
         have H:=HA.out
         clear HA
         simp only [impl_readSet.j3] at H
         by_cases c28 : x62_19 = true
         ·subst c28
          rw [if_pos rfl] at H
          simp only [Option.some.injEq,Prod.mk.injEq] at H
          obtain ⟨rfl,rfl⟩:=H
          go_wp2
          repeat (go_quiet (fail);try go_wp2)
          go_ret2
          exact ⟨_,by first|rfl|(simp [errW_none,errW_some] <;> rfl)|(simp [*,errW_none,errW_some] <;> rfl),by first|exact Kd.R_nil _ _ _ _ _|exact Kd.N_nil _ _ _ _ _|exact Kd.V_nil _ _ _ _ _|exact Kd.Q_nil _ _ _ _ _|exact Kd.S_nil _ _ _ _ _,zG_⟩
         replace c28:=Bool.eq_false_iff.mpr c28
         subst c28
         rw [zF_] at H
         have H':=zm_ H
         clear H
         go_wp2
         repeat (go_quiet (fail);try go_wp2)
         go_loopg [4,8] kj19 (fun kq v4 v8 w' => ∃ (x4_5 : List Int) (x8_5 : Int),v8 = .int .i64 x8_5 ∧ Aside0 (impl_readSet.l1 kq a0 x4_5 x5_12 x7_12 x8_5 = some (r1,r2)) ∧ Aside0 (kq ≤ kj19) ∧ Aside0 (Kd.R (Kd.int .u8) 5 w' w.heap.size (fun _ => True) v4 x4_5) ∧ Aside0 (Below w.heap.size w w'))
         case atStart => exact ⟨(x4_1),(wrap64 ((bt a0 x5_1))),zV_,H',⟨Nat.le_refl _⟩,⟨zO_⟩,⟨zG_⟩⟩
         case round =>
          clear H'
          obtain ⟨x4_5,x8_5,rfl,HA,HK5,HO_4,HB⟩:=hrel
          cases gk with
          |zero => exact absurd HA.out (by simp [impl_readSet.l1])
          |succ k5 =>
           have H:=HA.out
           clear HA
           simp only [impl_readSet.l1] at H
           by_cases c29 : x8_5 ≤ (wrap64 (x7_12))
           rotate_left
           ·rw [if_neg c29] at H
            have c29b0:=decide_eq_false c29
            clear c29
            have H':=zm_ H
            clear H
            go_wp2
            repeat (go_quiet (fail);try go_wp2)
            go_roundg k5
            case measure => have:=HK1.out;have:=HJ7.out;have:=HJ12.out;have:=HJ19.out;have:=HK5.out;omega
            case rel => exact ⟨(x4_5),(x5_12),zV_,H',⟨by have:=HK1.out;have:=HJ7.out;have:=HJ12.out;have:=HJ19.out;have:=HK5.out;omega⟩,⟨zO_⟩,⟨zG_⟩⟩
           rw [if_pos c29] at H
           have c29b0:=decide_eq_true c29
           clear c29
           by_cases c30 : x4_5.length < 140737488355328
           rotate_left
           ·rw [if_neg c30] at H
            cases H
           rw [if_pos c30] at H
           have LMc30:=zm_ c30
           clear c30
           obtain ⟨y370,hy370⟩ : ∃ y_ : List Int,y_ = (x4_5 ++ [(x8_5) % 256]):=⟨_,rfl⟩
           replace H : (impl_readSet.l1 k5 a0 y370 x5_12 x7_12 (wrap64 (x8_5 + 1))) = some (r1,r2):=by first|(rw [hy370];with_reducible exact H)|(have H2_:=(Option.bind_some _ _).symm.trans H;rw [hy370];with_reducible exact H2_)|(have H2_:=(Option.bind_some _ _).symm.trans H;with_reducible exact H2_)|with_reducible exact H|(rw [hy370];exact H)|exact H
           have Ny370:=zm_ hy370
           clear hy370
           have H':=zm_ H
           clear H
           go_wp2_with (first|((with_reducible refine gate_builtin (b:=.append) (xs:=#[.tmp 71,.tmp 74]) rfl ?_);at_builtin;refine Kd.R_append (Kd.int .u8) (w0:=w) w.heap.size rfl (.tmp 71) (.tmp 74) 137 5 (.int .u8 0) 1 rfl Tryz.underlying137 info5 rfl (by decide) (by omega) u4 x4_5 ((x8_5) % 256) [.int .u8 ((x8_5) % 256)] (fun _ => True) (fun _ => False) rfl rfl ?aP (fun _ hk => hk.elim) ?aF ?aO ?aB ?aS ?aL ?_;(case aP => exact rfl);(case aB => exact zB_);(case aF => exact (fun _ _ => trivial));(case aO => exact zO_);(case aS => exact (below_size zB_));(case aL => have:=LMc30.out;omega);intro v371 w31 ho hb hg hat;rw [← Ny370.out] at ho;have n0_:=zm_ (hb);have n1_:=zm_ (ho);clear HB;clear HO_4;have HB:=n0_;have HO372:=n1_;clear n0_ n1_;clear ho hb hg hat))
           repeat (go_quiet (first|((with_reducible refine gate_builtin (b:=.append) (xs:=#[.tmp 71,.tmp 74]) rfl ?_);at_builtin;refine Kd.R_append (Kd.int .u8) (w0:=w) w.heap.size rfl (.tmp 71) (.tmp 74) 137 5 (.int .u8 0) 1 rfl Tryz.underlying137 info5 rfl (by decide) (by omega) u4 x4_5 ((x8_5) % 256) [.int .u8 ((x8_5) % 256)] (fun _ => True) (fun _ => False) rfl rfl ?aP (fun _ hk => hk.elim) ?aF ?aO ?aB ?aS ?aL ?_;(case aP => exact rfl);(case aB => exact zB_);(case aF => exact (fun _ _ => trivial));(case aO => exact zO_);(case aS => exact (below_size zB_));(case aL => have:=LMc30.out;omega);intro v371 w31 ho hb hg hat;rw [← Ny370.out] at ho;have n0_:=zm_ (hb);have n1_:=zm_ (ho);clear HB;clear HO_4;have HB:=n0_;have HO372:=n1_;clear n0_ n1_;clear ho hb hg hat));try go_wp2_with (first|((with_reducible refine gate_builtin (b:=.append) (xs:=#[.tmp 71,.tmp 74]) rfl ?_);at_builtin;refine Kd.R_append (Kd.int .u8) (w0:=w) w.heap.size rfl (.tmp 71) (.tmp 74) 137 5 (.int .u8 0) 1 rfl Tryz.underlying137 info5 rfl (by decide) (by omega) u4 x4_5 ((x8_5) % 256) [.int .u8 ((x8_5) % 256)] (fun _ => True) (fun _ => False) rfl rfl ?aP (fun _ hk => hk.elim) ?aF ?aO ?aB ?aS ?aL ?_;(case aP => exact rfl);(case aB => exact zB_);(case aF => exact (fun _ _ => trivial));(case aO => exact zO_);(case aS => exact (below_size zB_));(case aL => have:=LMc30.out;omega);intro v371 w31 ho hb hg hat;rw [← Ny370.out] at ho;have n0_:=zm_ (hb);have n1_:=zm_ (ho);clear HB;clear HO_4;have HB:=n0_;have HO372:=n1_;clear n0_ n1_;clear ho hb hg hat)))
           go_roundg k5
           case measure => have:=HK1.out;have:=HJ7.out;have:=HJ12.out;have:=HJ19.out;have:=HK5.out;omega
           case rel => exact ⟨(y370),(wrap64 (x8_5 + 1)),zV_,H',⟨by have:=HK1.out;have:=HJ7.out;have:=HJ12.out;have:=HJ19.out;have:=HK5.out;omega⟩,⟨zO_⟩,⟨zG_⟩⟩
def impl_SetOk.f (k : Nat) (a0 : ByteArray) : Option (Bool):=(impl_readSet.f k a0).bind fun bt373 => (some bt373.2)
theorem impl_SetOk.calls (k : Nat) (a0 : ByteArray) (r : Bool) (w : World) (h : impl_SetOk.f k a0 = some r) :
  Calls Tryz.prog 74 #[.string a0] w fun e w' => e = .returned (.bool r) ∧ Below w.heap.size w w':=by
 have HB:=zm_ (Below.refl w.heap.size w)
 have H : ((impl_readSet.f k a0).bind fun bt373 => (some bt373.2)) = some r:=h
 clear h
 obtain ⟨⟨t373,t374⟩,A2,H⟩:=zJ_ H
 try dsimp only at H
 obtain rfl:=zi_ H
 go_enter Tryz.func74,Tryz.ntmps74
 go_wp2_with (first|((with_reducible refine gate_callee (f:=98) rfl ?_);refine goesL_ (some 7) rfl rfl Tryz.func98 (by kernel_rfl) rfl #[.string a0] rfl zq_ ?_;(with_reducible refine (impl_readSet.calls k a0 t373 t374 _ A2.out).mono ?_);rintro e w3 ⟨v375,rfl,ho0,hb⟩;refine ⟨_,rfl,?_⟩;have n0_:=zm_ (Kd.R_lower ho0 (below_size zB_));have n1_:=zm_ (below_step zB_ hb);clear HB;have HO376:=n0_;have HB:=n1_;clear n0_ n1_;(try clear hb);(try clear hb2);(try clear hk);(try clear hi);(try clear ho0)))
 go_ret
 exact ⟨zE_,zG_⟩

def impl_kidsAhead.l0 : Nat → Int → List Int → Int → Int → Option (Bool)
 |0,_,_,_,_ => none
 |k + 1,x1,x7,x8,x9 => if x9 < x8 then (if 0 ≤ x9 then (if x9 < (x7.length : Int) then ((impl_within.f (rd x7 x9) 0 (wrap64 (x1 - 1))).bind fun t378 => (if t378 = true then (impl_kidsAhead.l0 k x1 x7 x8 (wrap64 (x9 + 1))) else (some false))) else (none)) else (none)) else (some true)
def impl_kidsAhead.f (k : Nat) (l0 : List Int) (a1 : Int) : Option (Bool):=impl_kidsAhead.l0 k a1 l0 (l0.length : Int) 0
theorem impl_kidsAhead.calls (k : Nat) (A0 : Option Addr) (c0 : Nat) (l0 : List Int) (a1 : Int) (r : Bool) (w : World) (hr0 : Kd.C (Kd.int .i64) w A0 l0.length l0) (hc0 : l0.length ≤ c0) (h : impl_kidsAhead.f k l0 a1 = some r) :
  Calls Tryz.prog 54 #[.slice A0 l0.length c0,.int .i64 a1] w fun e w' => e = .returned (.bool r) ∧ Drawn0 w w':=by
 have HR0:=zm_ hr0
 have HC0:=zm_ hc0
 clear hr0 hc0
 have H : (impl_kidsAhead.l0 k a1 l0 (l0.length : Int) 0) = some r:=h
 clear h
 have H':=zm_ H
 clear H
 go_enter Tryz.func54,Tryz.ntmps54
 go_wp2
 go_loopg [9] k (fun kq v9 w' => ∃ (x9_1 : Int),v9 = .int .i64 x9_1 ∧ Aside0 (impl_kidsAhead.l0 kq a1 l0 (l0.length : Int) x9_1 = some r) ∧ Aside0 (kq ≤ k) ∧ Drawn0 w w')
 case atStart => exact ⟨(0),zV_,H',⟨Nat.le_refl _⟩,by repeat (first|exact Drawn0.refl _|apply Drawn0.step)⟩
 case round =>
  clear H'
  obtain ⟨x9_1,rfl,HA,HK1,⟨m1,rfl⟩⟩:=hrel
  cases gk with
  |zero => exact absurd HA.out (by simp [impl_kidsAhead.l0])
  |succ k1 =>
   have H:=HA.out
   clear HA
   simp only [impl_kidsAhead.l0] at H
   by_cases c3 : x9_1 < (l0.length : Int)
   rotate_left
   ·rw [if_neg c3] at H
    have c3b0:=decide_eq_false c3
    clear c3
    obtain rfl:=zi_ H
    go_wp2
    go_ret
    exact zX_


   rw [if_pos c3] at H
   have c3b0:=decide_eq_true c3
   clear c3
   by_cases c4 : 0 ≤ x9_1
   rotate_left
   ·rw [if_neg c4] at H
    cases H
   rw [if_pos c4] at H
   have c4b0:=decide_eq_true c4
   clear c4
   by_cases c5 : x9_1 < (l0.length : Int)
   rotate_left
   ·rw [if_neg c5] at H
    cases H
   rw [if_pos c5] at H
   have c5b0:=decide_eq_true c5
   clear c5
   obtain ⟨t378,A6,H⟩:=zJ_ H
   try dsimp only at H
   by_cases c7 : t378 = true
   ·subst c7
    rw [if_pos rfl] at H
    have H':=zm_ H
    clear H
    have p377 : 0 ≤ (x9_1 : Int):=zo_
    have q377 : x9_1 < (l0.length : Int):=zo_
    obtain ⟨ad377,e377,hx377_0⟩:=Kd.at_int HR0.out x9_1 p377 q377
    cases e377
    replace p377:=eq_true p377
    replace q377:=eq_true q377
    go_wp2_with (first|((with_reducible refine gate_callee (f:=20) rfl ?_);refine goesL_ (some 16) rfl rfl Tryz.func20 (by kernel_rfl) rfl #[.int .i64 (rd l0 x9_1),.int .i64 0,.int .i64 (wrap64 (a1 - 1))] rfl zq_ ?_;(with_reducible refine (impl_within.calls (rd l0 x9_1) 0 (wrap64 (a1 - 1)) true _ A6.out).mono ?_);rintro e w' ⟨rfl,⟨nd,rfl⟩⟩;refine ⟨_,rfl,?_⟩))
    go_roundg k1
    case measure => have:=HK1.out;omega
    case rel => exact ⟨(wrap64 (x9_1 + 1)),zV_,H',⟨by have:=HK1.out;omega⟩,by repeat (first|exact Drawn0.refl _|apply Drawn0.step)⟩
   replace c7:=Bool.eq_false_iff.mpr c7
   subst c7
   rw [zF_] at H
   obtain rfl:=zi_ H
   have p377 : 0 ≤ (x9_1 : Int):=zo_
   have q377 : x9_1 < (l0.length : Int):=zo_
   obtain ⟨ad377,e377,hx377_0⟩:=Kd.at_int HR0.out x9_1 p377 q377
   cases e377
   replace p377:=eq_true p377
   replace q377:=eq_true q377
   go_wp2_with (first|((with_reducible refine gate_callee (f:=20) rfl ?_);refine goesL_ (some 16) rfl rfl Tryz.func20 (by kernel_rfl) rfl #[.int .i64 (rd l0 x9_1),.int .i64 0,.int .i64 (wrap64 (a1 - 1))] rfl zq_ ?_;(with_reducible refine (impl_within.calls (rd l0 x9_1) 0 (wrap64 (a1 - 1)) false _ A6.out).mono ?_);rintro e w' ⟨rfl,⟨nd,rfl⟩⟩;refine ⟨_,rfl,?_⟩))
   go_ret
   exact zX_
end Go.Proofs.YtkbgmojomgelbaaGreat.MFnExactGrammarOk
