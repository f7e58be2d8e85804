import Derived.Test.YtnmhggdaccbbfaaMFnExprsx0
namespace Go.Proofs.Ytnmhggdaccbbfaa.MFnExprs
open Go.RowKit Go.Proofs.YtnmhggdaccbbfaaW.PrintWords Go.Proofs.YtnmhggdaccbbfaaW.PrintLast Go.Proofs.YtnmhggdaccbbfaaW.PrintMore
attribute [local go_sem] max2_int min2_int max_two min_two max_three min_three max_four min_four
set_option linter.unusedVariables false
set_option linter.unusedSimpArgs false

def spec_EnvGet.l0 : Nat → List (S87) → ByteArray → Int → Option (Int × Bool)
 |0,_,_,_ => none
 |k + 1,x0,x1,x6 => if x6 < (x0.length : Int) then (if 0 ≤ x6 then (if ((rd_T87 x0 x6).f0).toList = x1.toList then (some ((rd_T87 x0 x6).f1,true)) else (spec_EnvGet.l0 k x0 x1 (wrap64 (x6 + 1)))) else (none)) else (some (0,false))
def spec_EnvGet.f (k : Nat) (l0 : List (S87)) (a1 : ByteArray) : Option (Int × Bool):=spec_EnvGet.l0 k l0 a1 0
theorem spec_EnvGet.mono_l : ∀ k,(∀ y0 y1 y2,LeO (spec_EnvGet.l0 k y0 y1 y2) (spec_EnvGet.l0 (k + 1) y0 y1 y2))
 |0 => fun _ _ _ r h => by simp [spec_EnvGet.l0] at h
 |k + 1 => by
  have ih0:=spec_EnvGet.mono_l k
  ·intro y0 y1 y2
   unfold spec_EnvGet.l0
   repeat' first
   |(with_reducible exact ih0 _ _ _)
   |(with_reducible exact LeO.refl _)
   |(with_reducible exact LeO.none _)
   |(with_reducible refine LeO.ite ?_ ?_)
   |(with_reducible refine LeO.bind ?_ (fun _ => ?_))
theorem spec_EnvGet.mono : ∀ a0 a1 k,LeO (spec_EnvGet.f k a0 a1) (spec_EnvGet.f (k + 1) a0 a1):=by
 intro a0 a1 k
 have ih0:=spec_EnvGet.mono_l k
 unfold spec_EnvGet.f
 repeat' first
   |(with_reducible exact ih0 _ _ _)
   |(with_reducible exact LeO.refl _)
   |(with_reducible exact LeO.none _)
   |(with_reducible refine LeO.ite ?_ ?_)
   |(with_reducible refine LeO.bind ?_ (fun _ => ?_))
set_option maxHeartbeats 8000000 in
set_option maxRecDepth 100000 in
theorem spec_EnvGet.calls (k : Nat) (A0 : Option Addr) (c0 : Nat) (l0 : List (S87)) (a1 : ByteArray) (r1 : Int) (r2 : Bool) (w : World) (hr0 : Kd.C k87 w A0 l0.length l0) (hc0 : l0.length ≤ c0) (h : spec_EnvGet.f k l0 a1 = some (r1,r2)) :
  Calls Try.prog 19 #[.slice A0 l0.length c0,.string a1] w fun e w' => e = .returned (.tuple #[.int .i64 r1,.bool r2]) ∧ Drawn0 w w':=by
 have HR0:=zm_ hr0
 have HC0:=zm_ hc0
 clear hr0 hc0
 have H : (spec_EnvGet.l0 k l0 a1 0) = some (r1,r2):=h
 clear h
 have H':=zm_ H
 clear H
 go_enter Try.func19,Try.ntmps19
 go_wp2
 go_loopg [6] k (fun kq v6 w' => ∃ (x6_1 : Int),v6 = .int .i64 x6_1 ∧ Aside0 (spec_EnvGet.l0 kq l0 a1 x6_1 = some (r1,r2)) ∧ Aside0 (kq ≤ k) ∧ Drawn0 w w')
 case atStart => exact ⟨(0),zV_,H',⟨Nat.le_refl _⟩,by repeat (first|exact Drawn0.refl _|apply Drawn0.step)⟩
 case round =>
  clear H'
  try clear c1
  try clear p2
  obtain ⟨x6_1,rfl,HA,HK1,⟨m1,rfl⟩⟩:=hrel
  cases gk with
  |zero => exact absurd HA.out (by simp [spec_EnvGet.l0])
  |succ k1 =>
   have H:=HA.out
   clear HA
   simp only [spec_EnvGet.l0] at H
   by_cases c3 : x6_1 < (l0.length : Int)
   ·rw [if_pos c3] at H
    have c3b0 : decide (x6_1 < (l0.length : Int)) = true:=decide_eq_true c3
    clear c3
    by_cases c4 : 0 ≤ x6_1
    ·rw [if_pos c4] at H
     have c4b0 : decide (0 ≤ x6_1) = true:=decide_eq_true c4
     clear c4
     by_cases c5 : ((rd_T87 l0 x6_1).f0).toList = a1.toList
     ·rw [if_pos c5] at H
      have c5b0 : (((rd_T87 l0 x6_1).f0).toList == a1.toList) = true:=beq_iff_eq.mpr c5
      have c5b1 : (((rd_T87 l0 x6_1).f0).toList != a1.toList) = false:=bne_eq_false_iff_eq.mpr c5
      clear c5
      simp only [Option.some.injEq,Prod.mk.injEq] at H
      obtain ⟨rfl,rfl⟩:=H
      have p307 : 0 ≤ (x6_1 : Int):=zo_
      have q307 : x6_1 < (l0.length : Int):=zo_
      obtain ⟨ad307,e307,hx307_0,hx307_1⟩:=at_T87 HR0.out x6_1 p307 q307
      cases e307
      replace p307:=eq_true p307
      replace q307:=eq_true q307
      have p308 : 0 ≤ (x6_1 : Int):=zo_
      have q308 : x6_1 < (l0.length : Int):=zo_
      obtain ⟨ad308,e308,hx308_0,hx308_1⟩:=at_T87 HR0.out x6_1 p308 q308
      obtain rfl : ad307 = ad308:=(by injection e308)
      replace p308:=eq_true p308
      replace q308:=eq_true q308
      go_wp2
      go_ret2
      exact ⟨by first|rfl|(simp;done)|(simp [*];done),by repeat (first|exact Drawn0.refl _|apply Drawn0.step)⟩
     ·rw [if_neg c5] at H
      have c5b0 : (((rd_T87 l0 x6_1).f0).toList == a1.toList) = false:=beq_eq_false_iff_ne.mpr c5
      have c5b1 : (((rd_T87 l0 x6_1).f0).toList != a1.toList) = true:=bne_iff_ne.mpr c5
      have H':=zm_ H
      clear H
      have p307 : 0 ≤ (x6_1 : Int):=zo_
      have q307 : x6_1 < (l0.length : Int):=zo_
      obtain ⟨ad307,e307,hx307_0,hx307_1⟩:=at_T87 HR0.out x6_1 p307 q307
      cases e307
      replace p307:=eq_true p307
      replace q307:=eq_true q307
      go_wp2
      go_roundg k1
      case measure => have:=HK1.out;omega
      case rel => exact ⟨(wrap64 (x6_1 + 1)),zV_,H',⟨by have:=HK1.out;omega⟩,by repeat (first|exact Drawn0.refl _|apply Drawn0.step)⟩
    ·rw [if_neg c4] at H
     exact absurd H (by simp)
   ·rw [if_neg c3] at H
    have c3b0 : decide (x6_1 < (l0.length : Int)) = false:=decide_eq_false c3
    clear c3
    simp only [Option.some.injEq,Prod.mk.injEq] at H
    obtain ⟨rfl,rfl⟩:=H
    go_wp2
    go_ret2
    exact ⟨by first|rfl|(simp;done)|(simp [*];done),by repeat (first|exact Drawn0.refl _|apply Drawn0.step)⟩

mutual
def spec_l04Marks.l0 : Nat → List Bool → Int → List (S34) → Option (List Bool)
 |0,_,_,_ => none
 |k + 1,x3,x4,x310000 => if x4 ≥ 0 then (spec_l04Marks.l1 k x3 x4 0 x310000) else (some x3)
def spec_l04Marks.l1 : Nat → List Bool → Int → Int → List (S34) → Option (List Bool)
 |0,_,_,_,_ => none
 |k + 1,x3,x4,x5,x310000 => if 0 ≤ x4 then (if x4 < (x310000.length : Int) then (if x5 < (((rd_T34 x310000 x4).f3).length : Int) then (if x4 < (x3.length : Int) then (if rdOf false x3 x4 = true then (if 0 ≤ x5 then (if 0 ≤ (rd ((rd_T34 x310000 x4).f3) x5) then (if (rd ((rd_T34 x310000 x4).f3) x5) < (x3.length : Int) then (spec_l04Marks.l1 k (x3.set ((rd ((rd_T34 x310000 x4).f3) x5) : Int).toNat true) x4 (wrap64 (x5 + 1)) x310000) else (none)) else (none)) else (none)) else (spec_l04Marks.l0 k x3 (wrap64 (x4 - 1)) x310000)) else (none)) else (spec_l04Marks.l0 k x3 (wrap64 (x4 - 1)) x310000)) else (none)) else (none)
end
def spec_l04Marks.f (k : Nat) (l0_0 : List (S34)) : Option (List Bool):=if 0 ≤ (l0_0.length : Int) then (if ((l0_0.length : Int) : Int).toNat ≤ 281474976710656 then ((some (List.replicate ((l0_0.length : Int) : Int).toNat false : List Bool)).bind fun y310 => (if 0 ≤ (wrap64 ((y310.length : Int) - 1)) then (if (wrap64 ((y310.length : Int) - 1)) < (y310.length : Int) then (spec_l04Marks.l0 k (y310.set ((wrap64 ((y310.length : Int) - 1)) : Int).toNat true) (wrap64 ((y310.length : Int) - 1)) l0_0) else (none)) else (none))) else (none)) else (none)
theorem spec_l04Marks.mono_l : ∀ k,(∀ y0 y1 y2,LeO (spec_l04Marks.l0 k y0 y1 y2) (spec_l04Marks.l0 (k + 1) y0 y1 y2)) ∧ (∀ y0 y1 y2 y3,LeO (spec_l04Marks.l1 k y0 y1 y2 y3) (spec_l04Marks.l1 (k + 1) y0 y1 y2 y3))
 |0 => ⟨fun _ _ _ r h => by simp [spec_l04Marks.l0] at h,fun _ _ _ _ r h => by simp [spec_l04Marks.l1] at h⟩
 |k + 1 => by
  obtain ⟨ih0,ih1⟩:=spec_l04Marks.mono_l k
  refine ⟨?_,?_⟩
  ·intro y0 y1 y2
   unfold spec_l04Marks.l0
   repeat' first
   |(with_reducible exact ih0 _ _ _)
   |(with_reducible exact ih1 _ _ _ _)
   |(with_reducible exact LeO.refl _)
   |(with_reducible exact LeO.none _)
   |(with_reducible refine LeO.ite ?_ ?_)
   |(with_reducible refine LeO.bind ?_ (fun _ => ?_))
  ·intro y0 y1 y2 y3
   unfold spec_l04Marks.l1
   repeat' first
   |(with_reducible exact ih0 _ _ _)
   |(with_reducible exact ih1 _ _ _ _)
   |(with_reducible exact LeO.refl _)
   |(with_reducible exact LeO.none _)
   |(with_reducible refine LeO.ite ?_ ?_)
   |(with_reducible refine LeO.bind ?_ (fun _ => ?_))
theorem spec_l04Marks.mono : ∀ a0 k,LeO (spec_l04Marks.f k a0) (spec_l04Marks.f (k + 1) a0):=by
 intro a0 k
 obtain ⟨ih0,ih1⟩:=spec_l04Marks.mono_l k
 unfold spec_l04Marks.f
 repeat' first
   |(with_reducible exact ih0 _ _ _)
   |(with_reducible exact ih1 _ _ _ _)
   |(with_reducible exact LeO.refl _)
   |(with_reducible exact LeO.none _)
   |(with_reducible refine LeO.ite ?_ ?_)
   |(with_reducible refine LeO.bind ?_ (fun _ => ?_))
set_option maxHeartbeats 8000000 in
set_option maxRecDepth 100000 in
theorem spec_l04Marks.calls (k : Nat) (A0_0 : Option Addr) (c0_0 : Nat) (l0_0 : List (S34)) (r : List Bool) (w : World) (hr0_0 : Kd.C k34 w A0_0 l0_0.length l0_0) (hc0_0 : l0_0.length ≤ c0_0) (h : spec_l04Marks.f k l0_0 = some r) :
  Calls Try.prog 55 #[.agg #[.slice A0_0 l0_0.length c0_0]] w fun e w' => ∃ v0_ : Value,e = .returned (v0_) ∧ Kd.R Kd.bool 4 w' w.heap.size (fun _ => True) v0_ r ∧ Below w.heap.size w w':=by
 have hu28:=Try.underlying28
 have HR0_0:=zm_ hr0_0
 have HC0_0:=zm_ hc0_0
 clear hr0_0 hc0_0
 have HB:=zm_ (Below.refl w.heap.size w)
 have H : (if 0 ≤ (l0_0.length : Int) then (if ((l0_0.length : Int) : Int).toNat ≤ 281474976710656 then ((some (List.replicate ((l0_0.length : Int) : Int).toNat false : List Bool)).bind fun y310 => (if 0 ≤ (wrap64 ((y310.length : Int) - 1)) then (if (wrap64 ((y310.length : Int) - 1)) < (y310.length : Int) then (spec_l04Marks.l0 k (y310.set ((wrap64 ((y310.length : Int) - 1)) : Int).toNat true) (wrap64 ((y310.length : Int) - 1)) l0_0) else (none)) else (none))) else (none)) else (none)) = some r:=h
 clear h
 by_cases c2 : 0 ≤ (l0_0.length : Int)
 ·rw [if_pos c2] at H
  have c2b0:=eq_true c2
  have c2b1 : decide (0 ≤ (l0_0.length : Int)) = true:=decide_eq_true c2
  clear c2
  by_cases c3 : ((l0_0.length : Int) : Int).toNat ≤ 281474976710656
  ·rw [if_pos c3] at H
   have c3b0:=eq_true c3
   have c3b1 : decide (((l0_0.length : Int) : Int).toNat ≤ 281474976710656) = true:=decide_eq_true c3
   clear c3
   obtain ⟨y310,hy310⟩ : ∃ y_ : List Bool,y_ = (List.replicate ((l0_0.length : Int) : Int).toNat false):=⟨_,rfl⟩
   replace H : (if 0 ≤ (wrap64 ((y310.length : Int) - 1)) then (if (wrap64 ((y310.length : Int) - 1)) < (y310.length : Int) then (spec_l04Marks.l0 k (y310.set ((wrap64 ((y310.length : Int) - 1)) : Int).toNat true) (wrap64 ((y310.length : Int) - 1)) l0_0) else (none)) else (none)) = some r:=by first|(rw [hy310];with_reducible exact H)|(have H2_:=(Option.bind_some _ _).symm.trans H;rw [hy310];with_reducible exact H2_)|(have H2_:=(Option.bind_some _ _).symm.trans H;with_reducible exact H2_)|with_reducible exact H|(rw [hy310];exact H)|exact H
   have Ny310:=zm_ hy310
   clear hy310
   obtain ⟨ji4,hji4⟩ : ∃ j_ : Int,(wrap64 ((y310.length : Int) - 1)) = j_:=⟨_,rfl⟩
   replace H : (if 0 ≤ (ji4) then (if (ji4) < (y310.length : Int) then (spec_l04Marks.l0 k (y310.set ((ji4) : Int).toNat true) ji4 l0_0) else (none)) else (none)) = some r:=by first|(rw [hji4] at H;exact H)|(simp only [hji4] at H ⊢;exact H)
   have hji4w : (IntKind.i64.wrap ((y310.length : Int) - 1)) = ji4:=(i64_w _).trans hji4
   by_cases c5 : 0 ≤ (ji4)
   ·rw [if_pos c5] at H
    have c5b0 : decide (0 ≤ (ji4)) = true:=decide_eq_true c5
    clear c5
    by_cases c6 : (ji4) < (y310.length : Int)
    ·rw [if_pos c6] at H
     have c6b0 : decide ((ji4) < (y310.length : Int)) = true:=decide_eq_true c6
     clear c6
     obtain ⟨y313,hy313⟩ : ∃ y_ : List Bool,y_ = (y310.set ((ji4) : Int).toNat true):=⟨_,rfl⟩
     replace H : (spec_l04Marks.l0 k y313 ji4 l0_0) = some r:=by first|(rw [hy313];with_reducible exact H)|(have H2_:=(Option.bind_some _ _).symm.trans H;rw [hy313];with_reducible exact H2_)|(have H2_:=(Option.bind_some _ _).symm.trans H;with_reducible exact H2_)|with_reducible exact H|(rw [hy313];exact H)|exact H
     have Ny313:=zm_ hy313
     clear hy313
     have H':=zm_ H
     clear H
     go_enter Try.func55,Try.ntmps55
     go_wp2_with (first|((with_reducible refine gate_dst (N:=1) rfl ?_);refine box_event ?hg (N:=1) ?hd (cs:=#[.slice A0_0 l0_0.length c0_0]) (t:=28) ?hr ?_;(case hd => rfl);(case hg => rfl);(case hr => first|(go_simp;done)|(go_simp;rfl));intro gb309 hg w8 hbox hb;have n0_:=zm_ (below_step zB_ hb);have n1_:=zm_ (hbox);have n2_:=zm_ ((by rw [hg];exact (below_size zB_) : w.heap.size ≤ gb309));have n3_:=zm_ ((by rw [hg];exact (below_size zB_) : w.heap.size ≤ gb309));clear HB;have HB:=n0_;have BK309:=n1_;have GW309:=n2_;have GE309:=n3_;clear n0_ n1_ n2_ n3_;clear hb hbox hg;have hcz9_0 : w8.cell? ⟨gb309,0,none⟩ = some (.slice A0_0 l0_0.length c0_0):=(zc_ BK309.out 0).trans rfl;have hfz9_0:=zf_ BK309.out 0)|((with_reducible refine gate_dst (N:=9) rfl ?_);refine Kd.R_make Kd.bool _ 4 rfl (N:=9) rfl 73 _ _ rfl (l0_0.length : Int) rfl rfl Try.underlying73 (.bool false) 1 info4 rfl (by decide) (by omega) false (ok:=fun _ => True) (okp:=fun _ => True) rfl (fun _ hk => hk) trivial (zo_) (Nat.le_trans (Nat.mul_le_mul_right _ (zo_ : (l0_0.length : Int).toNat ≤ 281474976710656)) (by omega)) (Below.refl _ _) (Nat.le_refl _) ?_;intro v311 w10 ho11 hb hg_ hnew_;clear hg_ hnew_;(first|rw [← Ny310.out] at ho11|(simp only [Int.reduceToNat] at ho11;rw [← Ny310.out] at ho11));have n0_:=zm_ (Kd.R_lower ho11 (below_size (by repeat (first|(with_reducible first|exact HB.out|apply za_|apply zn_|apply zd_|refine zs_ ?_ GE309.out)|exact HB.out))));have n1_:=zm_ (blk_below (g:=gb309) (o:=.cells #[.slice A0_0 l0_0.length c0_0] 28 (0,0)) (by (with_reducible repeat first|refine zl_ ?_ _|refine zr_ ?_|refine zk_ ?_ _);exact BK309.out) hb);have n2_:=zm_ (below_step (by repeat (first|(with_reducible first|exact HB.out|apply za_|apply zn_|apply zd_|refine zs_ ?_ GE309.out)|exact HB.out)) hb);clear BK309;clear HB;have HO312:=n0_;have BK309:=n1_;have HB:=n2_;clear n0_ n1_ n2_;clear hb ho11;obtain ⟨Ao12,co12,eo12⟩:=Kd.R_slice HO312.out;subst eo12;have p7 : 0 ≤ ((ji4) : Int):=zo_;have q7 : ((ji4) : Int) < ((y310.length : Int) : Int):=zo_;obtain ⟨go7,co7,eo7,gb7,gl7,cl7,HG7⟩:=Kd.R_form HO312.out (by omega);(first|cases eo7|(injection eo7 with ea_ en_ ec_;(first|subst ea_|(injection ea_ with ea_;subst ea_));subst ec_;clear en_));have GB7:=zm_ gb7;have GG7:=zm_ HG7;clear gb7 gl7 HG7;obtain ⟨hx7_0,hf7_0⟩:=Kd.R_celln false HO312.out ((ji4) : Int) p7 q7;replace p7:=eq_true p7;replace q7:=eq_true q7;obtain ⟨hy13_,hz13_⟩:=Kd.R_celln false HO312.out ((ji4) : Int) (zo_) (zo_);have HP13:=Kd.R_putg HO312.out ((ji4) : Int) true)|((with_reducible refine gate_store (t:=4) (p:=14) rfl ?_);refine store_event (t:=4) (p:=14) (v:=?vo_w14) (w1:=(w10.setCell ⟨go7,((ji4) : Int).toNat,none⟩ (.bool true))) ?hg ?ho ?hn ?hr ?_;(case ho => rfl);(case hg => rfl);(case hn => rfl);(case hr => first|(go_simp;done)|(go_simp;rfl));intro w14 hw;have hg : w10.grownBy w14 (some go7):=(by rw [hw];exact HP13.2);have hp_ : Kd.R Kd.bool 4 w14 w.heap.size (fun _ => True) (.slice (some ⟨go7,0,none⟩) y310.length co12) y313:=(by rw [hw,Ny313.out];exact HP13.1);clear HP13;have n0_:=zm_ (blk_grown (g:=gb309) (o:=.cells #[.slice A0_0 l0_0.length c0_0] 28 (0,0)) (by (with_reducible repeat first|refine zl_ ?_ _|refine zr_ ?_|refine zk_ ?_ _);exact BK309.out) hg (Kd.R_ne HO312.out BK309.out (by decide)));have n1_:=zm_ (hp_);have n2_:=zm_ ((by rw [hw];exact zs_ (HB.out) GB7.out : Below w.heap.size w w14));clear BK309;clear HO312;clear HB;have BK309:=n0_;have HO312:=n1_;have HB:=n2_;clear n0_ n1_ n2_;clear hg hw hp_))
     go_loopg [4] k (fun kq v4 w' => ∃ (x3_1 : List Bool) (x4_1 : Int),v4 = .int .i64 x4_1 ∧ Aside0 (spec_l04Marks.l0 kq x3_1 x4_1 l0_0 = some r) ∧ Aside0 (kq ≤ k) ∧ Aside0 (Kd.R Kd.bool 4 w' w.heap.size (fun _ => True) (.slice (some ⟨go7,0,none⟩) y310.length co12) x3_1) ∧ Aside0 (w'.heap[gb309]? = some (.cells #[(.slice A0_0 l0_0.length c0_0)] 28 (0,0))) ∧ Aside0 (Below w.heap.size w w'))
     case atStart => exact ⟨(y313),(ji4),(by first|rfl|(exact congrArg Value.bool (isEmpty_ne _))|(exact congrArg Value.bool (isEmpty_ne' _))|(exact congrArg Value.bool (isEmpty_eq _))|(simp;done)|(simp only [← hji4] <;> (first|rfl|simp))|(simp [*];done)),H',⟨Nat.le_refl _⟩,⟨by (with_reducible repeat (first|apply Kd.R_alloc|apply Kd.R_drewN|apply Kd.R_drew));exact HO312.out⟩,⟨by (with_reducible repeat first|refine zl_ ?_ _|refine zr_ ?_|refine zk_ ?_ _);exact BK309.out⟩,⟨by repeat (first|(with_reducible first|exact HB.out|apply za_|apply zn_|apply zd_|refine zs_ ?_ GE309.out)|exact HB.out)⟩⟩
     case round =>
      clear H'
      try clear c2
      try clear c2b0
      try clear c2b1
      try clear p2
      try clear c3
      try clear c3b0
      try clear c3b1
      try clear c5
      try clear c5b0
      try clear c6
      try clear c6b0
      try clear p6
      try clear p7
      try clear q7
      try clear hx7
      try clear hf7
      try clear hcz9_0
      try clear hfz9_0
      try clear hx7_0
      try clear p7
      try clear q7
      obtain ⟨x3_1,x4_1,rfl,HA,HK1,HO_3,BK309,HB⟩:=hrel
      have hl3_1:=(Kd.R_reads' HO_3.out).1
      rw [hl3_1] at HO_3
      (try simp only [hl3_1])
      (try simp only [hl3_1] at BK309)
      cases gk with
      |zero => exact absurd HA.out (by simp [spec_l04Marks.l0])
      |succ k1 =>
       have H:=HA.out
       clear HA
       simp only [spec_l04Marks.l0] at H
       by_cases c15 : x4_1 ≥ 0
       ·rw [if_pos c15] at H
        have c15b0 : decide (0 ≤ x4_1) = true:=decide_eq_true c15
        clear c15
        have H':=zm_ H
        clear H
        go_wp2
        go_loopg [5] k1 (fun kq v5 w' => ∃ (x3_2 : List Bool) (x5_2 : Int),v5 = .int .i64 x5_2 ∧ Aside0 (spec_l04Marks.l1 kq x3_2 x4_1 x5_2 l0_0 = some r) ∧ Aside0 (kq ≤ k1) ∧ Aside0 (Kd.R Kd.bool 4 w' w.heap.size (fun _ => True) (.slice (some ⟨go7,0,none⟩) x3_1.length co12) x3_2) ∧ Aside0 (w'.heap[gb309]? = some (.cells #[(.slice A0_0 l0_0.length c0_0)] 28 (0,0))) ∧ Aside0 (Below w.heap.size w w'))
        case atStart => exact ⟨(x3_1),(0),zV_,H',⟨Nat.le_refl _⟩,⟨by (try simp only [hl3_1]);(with_reducible repeat (first|apply Kd.R_alloc|apply Kd.R_drewN|apply Kd.R_drew));exact HO_3.out⟩,⟨by (try simp only [hl3_1]);(with_reducible repeat first|refine zl_ ?_ _|refine zr_ ?_|refine zk_ ?_ _);exact BK309.out⟩,⟨by repeat (first|(with_reducible first|exact HB.out|apply za_|apply zn_|apply zd_|refine zs_ ?_ GE309.out)|exact HB.out)⟩⟩
        case round =>
         clear H'
         try clear c1
         try clear c2
         try clear c2b0
         try clear c2b1
         try clear p2
         try clear c3
         try clear c3b0
         try clear c3b1
         try clear c5
         try clear c5b0
         try clear c6
         try clear c6b0
         try clear p6
         try clear p7
         try clear q7
         try clear hx7
         try clear hf7
         try clear c15
         try clear c15b0
         try clear hcz9_0
         try clear hfz9_0
         try clear hx7_0
         try clear p2
         try clear p6
         try clear p7
         try clear q7
         obtain ⟨x3_2,x5_2,rfl,HA,HK2,HO_3,BK309,HB⟩:=hrel
         have hl3_2:=(Kd.R_reads' HO_3.out).1
         rw [hl3_2] at HO_3
         (try simp only [hl3_2])
         (try simp only [hl3_2] at BK309)
         cases gk with
         |zero => exact absurd HA.out (by simp [spec_l04Marks.l1])
         |succ k2 =>
          have H:=HA.out
          clear HA
          simp only [spec_l04Marks.l1] at H
          by_cases c16 : 0 ≤ x4_1
          ·rw [if_pos c16] at H
           have c16b0 : decide (0 ≤ x4_1) = true:=decide_eq_true c16
           clear c16
           by_cases c17 : x4_1 < (l0_0.length : Int)
           ·rw [if_pos c17] at H
            have c17b0 : decide (x4_1 < (l0_0.length : Int)) = true:=decide_eq_true c17
            clear c17
            by_cases c18 : x5_2 < (((rd_T34 l0_0 x4_1).f3).length : Int)
            ·rw [if_pos c18] at H
             have c18b0 : decide (x5_2 < (((rd_T34 l0_0 x4_1).f3).length : Int)) = true:=decide_eq_true c18
             clear c18
             by_cases c19 : x4_1 < (x3_2.length : Int)
             ·rw [if_pos c19] at H
              have c19b0 : decide (x4_1 < (x3_2.length : Int)) = true:=decide_eq_true c19
              clear c19
              obtain ⟨bq20,hbq20⟩ : ∃ b_ : Bool,b_ = (rdOf false x3_2 x4_1):=⟨_,rfl⟩
              replace H : (if bq20 = true then (if 0 ≤ x5_2 then (if 0 ≤ (rd ((rd_T34 l0_0 x4_1).f3) x5_2) then (if (rd ((rd_T34 l0_0 x4_1).f3) x5_2) < (x3_2.length : Int) then (spec_l04Marks.l1 k2 (x3_2.set ((rd ((rd_T34 l0_0 x4_1).f3) x5_2) : Int).toNat true) x4_1 (wrap64 (x5_2 + 1)) l0_0) else (none)) else (none)) else (none)) else (spec_l04Marks.l0 k2 x3_2 (wrap64 (x4_1 - 1)) l0_0)) = some r:=by rw [← hbq20] at H;exact H
              have Nbq20:=zm_ hbq20
              clear hbq20
              by_cases c21 : bq20 = true
              ·subst c21
               have H1 : (if 0 ≤ x5_2 then (if 0 ≤ (rd ((rd_T34 l0_0 x4_1).f3) x5_2) then (if (rd ((rd_T34 l0_0 x4_1).f3) x5_2) < (x3_2.length : Int) then (spec_l04Marks.l1 k2 (x3_2.set ((rd ((rd_T34 l0_0 x4_1).f3) x5_2) : Int).toNat true) x4_1 (wrap64 (x5_2 + 1)) l0_0) else (none)) else (none)) else (none)) = some r:=by rw [if_pos rfl] at H;exact H
               clear H
               have H:=H1
               clear H1
               by_cases c22 : 0 ≤ x5_2
               ·rw [if_pos c22] at H
                have c22b0 : decide (0 ≤ x5_2) = true:=decide_eq_true c22
                clear c22
                by_cases c23 : 0 ≤ (rd ((rd_T34 l0_0 x4_1).f3) x5_2)
                ·rw [if_pos c23] at H
                 have c23b0 : decide (0 ≤ (rd ((rd_T34 l0_0 x4_1).f3) x5_2)) = true:=decide_eq_true c23
                 clear c23
                 by_cases c24 : (rd ((rd_T34 l0_0 x4_1).f3) x5_2) < (x3_2.length : Int)
                 ·rw [if_pos c24] at H
                  have c24b0 : decide ((rd ((rd_T34 l0_0 x4_1).f3) x5_2) < (x3_2.length : Int)) = true:=decide_eq_true c24
                  clear c24
                  obtain ⟨y318,hy318⟩ : ∃ y_ : List Bool,y_ = (x3_2.set ((rd ((rd_T34 l0_0 x4_1).f3) x5_2) : Int).toNat true):=⟨_,rfl⟩
                  replace H : (spec_l04Marks.l1 k2 y318 x4_1 (wrap64 (x5_2 + 1)) l0_0) = some r:=by first|(rw [hy318];with_reducible exact H)|(have H2_:=(Option.bind_some _ _).symm.trans H;rw [hy318];with_reducible exact H2_)|(have H2_:=(Option.bind_some _ _).symm.trans H;with_reducible exact H2_)|with_reducible exact H|(rw [hy318];exact H)|exact H
                  have Ny318:=zm_ hy318
                  clear hy318
                  have H':=zm_ H
                  clear H
                  have hcz26_0 : wr.cell? ⟨gb309,0,none⟩ = some (.slice A0_0 l0_0.length c0_0):=(zc_ BK309.out 0).trans rfl
                  have hfz26_0:=zf_ BK309.out 0
                  have p314 : 0 ≤ (x4_1 : Int):=zo_
                  have q314 : x4_1 < (l0_0.length : Int):=zo_
                  obtain ⟨ad314,A314_3,c314_3,e314,hx314_0,hx314_1,hx314_2,hx314_3,hl314_3,hi314_3⟩:=at_T34 HR0_0.out x4_1 p314 q314
                  cases e314
                  replace hx314_0:=(HB.out.cell (zb_ w _ hx314_0)).trans hx314_0
                  replace hx314_1:=(HB.out.cell (zb_ w _ hx314_1)).trans hx314_1
                  replace hx314_2:=(HB.out.cell (zb_ w _ hx314_2)).trans hx314_2
                  replace hx314_3:=(HB.out.cell (zb_ w _ hx314_3)).trans hx314_3
                  have HR314_3:=zm_ hi314_3
                  have HC314_3:=zm_ hl314_3
                  clear hi314_3 hl314_3
                  replace p314:=eq_true p314
                  replace q314:=eq_true q314
                  have p315 : 0 ≤ (x4_1 : Int):=zo_
                  have q315 : x4_1 < (x3_2.length : Int):=zo_
                  obtain ⟨ad315,e315,hx315_0⟩:=Kd.at_bool (Kd.R_reads' HO_3.out).2.2 x4_1 p315 q315
                  (try rw [← Nbq20.out] at hx315_0)
                  obtain rfl : (⟨go7,0,none⟩ : Addr) = ad315:=(by injection e315)
                  (first|simp only [add_plain] at hx315_0|simp only [add_at] at hx315_0|simp only [Addr.add,Nat.zero_add] at hx315_0|skip)
                  replace p315:=eq_true p315
                  replace q315:=eq_true q315
                  have p316 : 0 ≤ (x4_1 : Int):=zo_
                  have q316 : x4_1 < (l0_0.length : Int):=zo_
                  obtain ⟨ad316,A316_3,c316_3,e316,hx316_0,hx316_1,hx316_2,hx316_3,hl316_3,hi316_3⟩:=at_T34 HR0_0.out x4_1 p316 q316
                  obtain rfl : ad314 = ad316:=(by injection e316)
                  replace hx316_0:=(HB.out.cell (zb_ w _ hx316_0)).trans hx316_0
                  replace hx316_1:=(HB.out.cell (zb_ w _ hx316_1)).trans hx316_1
                  replace hx316_2:=(HB.out.cell (zb_ w _ hx316_2)).trans hx316_2
                  replace hx316_3:=(HB.out.cell (zb_ w _ hx316_3)).trans hx316_3
                  have HR316_3:=zm_ hi316_3
                  have HC316_3:=zm_ hl316_3
                  clear hi316_3 hl316_3
                  replace p316:=eq_true p316
                  replace q316:=eq_true q316
                  have ea_:=Option.some.inj (hx314_3.symm.trans hx316_3)
                  injection ea_ with ea_ en_ ec_
                  subst ea_
                  subst ec_
                  clear en_
                  have p317 : 0 ≤ (x5_2 : Int):=zo_
                  have q317 : x5_2 < (((rd_T34 l0_0 x4_1).f3).length : Int):=zo_
                  obtain ⟨ad317,e317,hx317_0⟩:=Kd.at_int HR316_3.out x5_2 p317 q317
                  cases e317
                  replace hx317_0:=(HB.out.cell (zb_ w _ hx317_0)).trans hx317_0
                  replace p317:=eq_true p317
                  replace q317:=eq_true q317
                  have p25 : 0 ≤ ((rd ((rd_T34 l0_0 x4_1).f3) x5_2) : Int):=zo_
                  have q25 : ((rd ((rd_T34 l0_0 x4_1).f3) x5_2) : Int) < ((x3_2.length : Int) : Int):=zo_
                  obtain ⟨hx25_0,hf25_0⟩:=Kd.R_celln false HO_3.out ((rd ((rd_T34 l0_0 x4_1).f3) x5_2) : Int) p25 q25
                  replace p25:=eq_true p25
                  replace q25:=eq_true q25
                  have HP27:=Kd.R_putg HO_3.out ((rd ((rd_T34 l0_0 x4_1).f3) x5_2) : Int) true
                  go_wp2_with (first|((with_reducible refine gate_store (t:=4) (p:=49) rfl ?_);refine store_event (t:=4) (p:=49) (v:=?vo_w28) (w1:=(wr.setCell ⟨go7,((rd ((rd_T34 l0_0 x4_1).f3) x5_2) : Int).toNat,none⟩ (.bool true))) ?hg ?ho ?hn ?hr ?_;(case ho => rfl);(case hg => rfl);(case hn => rfl);(case hr => first|(go_simp;done)|(go_simp;rfl));intro w28 hw;have hg : wr.grownBy w28 (some go7):=(by rw [hw];exact HP27.2);have hp_ : Kd.R Kd.bool 4 w28 w.heap.size (fun _ => True) (.slice (some ⟨go7,0,none⟩) x3_2.length co12) y318:=(by rw [hw,Ny318.out];exact HP27.1);clear HP27;have n0_:=zm_ (hp_);have n1_:=zm_ (blk_grown (g:=gb309) (o:=.cells #[.slice (some ad314) l0_0.length c0_0] 28 (0,0)) (by (with_reducible repeat first|refine zl_ ?_ _|refine zr_ ?_|refine zk_ ?_ _);exact BK309.out) hg (Kd.R_ne HO_3.out BK309.out (by decide)));have n2_:=zm_ ((by rw [hw];exact zs_ (HB.out) GB7.out : Below w.heap.size w w28));clear HO_3;clear BK309;clear HB;have HO_3:=n0_;have BK309:=n1_;have HB:=n2_;clear n0_ n1_ n2_;clear hg hw hp_))
                  (try simp only [← hl3_2])
                  go_roundg k2
                  case measure => have:=HK1.out;have:=HK2.out;omega
                  case rel => exact ⟨(y318),(wrap64 (x5_2 + 1)),zV_,H',⟨by have:=HK1.out;have:=HK2.out;omega⟩,⟨by (try simp only [hl3_1]);(try simp only [hl3_2]);(with_reducible repeat (first|apply Kd.R_alloc|apply Kd.R_drewN|apply Kd.R_drew));exact HO_3.out⟩,⟨by (try simp only [hl3_1]);(try simp only [hl3_2]);(with_reducible repeat first|refine zl_ ?_ _|refine zr_ ?_|refine zk_ ?_ _);exact BK309.out⟩,⟨by repeat (first|(with_reducible first|exact HB.out|apply za_|apply zn_|apply zd_|refine zs_ ?_ GE309.out)|exact HB.out)⟩⟩
                 ·rw [if_neg c24] at H
                  exact absurd H (by simp)
                ·rw [if_neg c23] at H
                 exact absurd H (by simp)
               ·rw [if_neg c22] at H
                exact absurd H (by simp)
              ·replace c21:=Bool.eq_false_iff.mpr c21
               subst c21
               have H1 : (spec_l04Marks.l0 k2 x3_2 (wrap64 (x4_1 - 1)) l0_0) = some r:=by rw [if_neg (show ¬ (false = true) by decide)] at H;exact H
               clear H
               have H:=H1
               clear H1
               have H':=zm_ H
               clear H
               have hcz29_0 : wr.cell? ⟨gb309,0,none⟩ = some (.slice A0_0 l0_0.length c0_0):=(zc_ BK309.out 0).trans rfl
               have hfz29_0:=zf_ BK309.out 0
               have p314 : 0 ≤ (x4_1 : Int):=zo_
               have q314 : x4_1 < (l0_0.length : Int):=zo_
               obtain ⟨ad314,A314_3,c314_3,e314,hx314_0,hx314_1,hx314_2,hx314_3,hl314_3,hi314_3⟩:=at_T34 HR0_0.out x4_1 p314 q314
               cases e314
               replace hx314_0:=(HB.out.cell (zb_ w _ hx314_0)).trans hx314_0
               replace hx314_1:=(HB.out.cell (zb_ w _ hx314_1)).trans hx314_1
               replace hx314_2:=(HB.out.cell (zb_ w _ hx314_2)).trans hx314_2
               replace hx314_3:=(HB.out.cell (zb_ w _ hx314_3)).trans hx314_3
               have HR314_3:=zm_ hi314_3
               have HC314_3:=zm_ hl314_3
               clear hi314_3 hl314_3
               replace p314:=eq_true p314
               replace q314:=eq_true q314
               have p315 : 0 ≤ (x4_1 : Int):=zo_
               have q315 : x4_1 < (x3_2.length : Int):=zo_
               obtain ⟨ad315,e315,hx315_0⟩:=Kd.at_bool (Kd.R_reads' HO_3.out).2.2 x4_1 p315 q315
               (try rw [← Nbq20.out] at hx315_0)
               obtain rfl : (⟨go7,0,none⟩ : Addr) = ad315:=(by injection e315)
               (first|simp only [add_plain] at hx315_0|simp only [add_at] at hx315_0|simp only [Addr.add,Nat.zero_add] at hx315_0|skip)
               replace p315:=eq_true p315
               replace q315:=eq_true q315
               go_wp2
               (try simp only [← hl3_1,← hl3_2])
               go_roundg k2
               case measure => have:=HK1.out;have:=HK2.out;omega
               case rel => exact ⟨(x3_2),(wrap64 (x4_1 - 1)),zV_,H',⟨by have:=HK1.out;have:=HK2.out;omega⟩,⟨by (try simp only [hl3_1]);(try simp only [hl3_2]);(with_reducible repeat (first|apply Kd.R_alloc|apply Kd.R_drewN|apply Kd.R_drew));exact HO_3.out⟩,⟨by (try simp only [hl3_1]);(try simp only [hl3_2]);(with_reducible repeat first|refine zl_ ?_ _|refine zr_ ?_|refine zk_ ?_ _);exact BK309.out⟩,⟨by repeat (first|(with_reducible first|exact HB.out|apply za_|apply zn_|apply zd_|refine zs_ ?_ GE309.out)|exact HB.out)⟩⟩
             ·rw [if_neg c19] at H
              exact absurd H (by simp)
            ·rw [if_neg c18] at H
             have c18b0 : decide (x5_2 < (((rd_T34 l0_0 x4_1).f3).length : Int)) = false:=decide_eq_false c18
             clear c18
             have H':=zm_ H
             clear H
             have hcz30_0 : wr.cell? ⟨gb309,0,none⟩ = some (.slice A0_0 l0_0.length c0_0):=(zc_ BK309.out 0).trans rfl
             have hfz30_0:=zf_ BK309.out 0
             have p314 : 0 ≤ (x4_1 : Int):=zo_
             have q314 : x4_1 < (l0_0.length : Int):=zo_
             obtain ⟨ad314,A314_3,c314_3,e314,hx314_0,hx314_1,hx314_2,hx314_3,hl314_3,hi314_3⟩:=at_T34 HR0_0.out x4_1 p314 q314
             cases e314
             replace hx314_0:=(HB.out.cell (zb_ w _ hx314_0)).trans hx314_0
             replace hx314_1:=(HB.out.cell (zb_ w _ hx314_1)).trans hx314_1
             replace hx314_2:=(HB.out.cell (zb_ w _ hx314_2)).trans hx314_2
             replace hx314_3:=(HB.out.cell (zb_ w _ hx314_3)).trans hx314_3
             have HR314_3:=zm_ hi314_3
             have HC314_3:=zm_ hl314_3
             clear hi314_3 hl314_3
             replace p314:=eq_true p314
             replace q314:=eq_true q314
             go_wp2
             (try simp only [← hl3_1,← hl3_2])
             go_roundg k2
             case measure => have:=HK1.out;have:=HK2.out;omega
             case rel => exact ⟨(x3_2),(wrap64 (x4_1 - 1)),zV_,H',⟨by have:=HK1.out;have:=HK2.out;omega⟩,⟨by (try simp only [hl3_1]);(try simp only [hl3_2]);(with_reducible repeat (first|apply Kd.R_alloc|apply Kd.R_drewN|apply Kd.R_drew));exact HO_3.out⟩,⟨by (try simp only [hl3_1]);(try simp only [hl3_2]);(with_reducible repeat first|refine zl_ ?_ _|refine zr_ ?_|refine zk_ ?_ _);exact BK309.out⟩,⟨by repeat (first|(with_reducible first|exact HB.out|apply za_|apply zn_|apply zd_|refine zs_ ?_ GE309.out)|exact HB.out)⟩⟩
           ·rw [if_neg c17] at H
            exact absurd H (by simp)
          ·rw [if_neg c16] at H
           exact absurd H (by simp)
       ·rw [if_neg c15] at H
        have c15b0 : decide (0 ≤ x4_1) = false:=decide_eq_false c15
        clear c15
        obtain rfl:=Option.some.inj H
        go_wp2
        go_ret
        exact ⟨_,by first|rfl|(simp [errW_none,errW_some] <;> rfl)|(simp only [← hji4];first|rfl|(simp [errW_none,errW_some] <;> rfl))|(simp [*,errW_none,errW_some] <;> rfl),by (with_reducible repeat (first|apply Kd.R_alloc|apply Kd.R_drewN|apply Kd.R_drew));exact HO_3.out,by repeat (first|(with_reducible first|exact HB.out|apply za_|apply zn_|apply zd_|refine zs_ ?_ GE309.out)|exact HB.out)⟩
    ·rw [if_neg c6] at H
     exact absurd H (by simp)
   ·rw [if_neg c5] at H
    exact absurd H (by simp)
  ·rw [if_neg c3] at H
   exact absurd H (by simp)
 ·rw [if_neg c2] at H
  exact absurd H (by simp)

def spec_l04Flag.f (a0 : Bool) : Option (Int):=if a0 = true then (some 1) else (some 0)
set_option maxHeartbeats 8000000 in
set_option maxRecDepth 100000 in
theorem spec_l04Flag.calls (a0 : Bool) (r : Int) (w : World) (h : spec_l04Flag.f a0 = some r) :
  Calls Try.prog 56 #[.bool a0] w fun e w' => e = .returned (.int .i64 r) ∧ Drawn0 w w':=by
 have H : (if a0 = true then (some 1) else (some 0)) = some r:=h
 clear h
 by_cases c2 : a0 = true
 ·subst c2
  have H1 : (some 1) = some r:=by rw [if_pos rfl] at H;exact H
  clear H
  have H:=H1
  clear H1
  obtain rfl:=Option.some.inj H
  go_enter Try.func56,Try.ntmps56
  go_wp2
  go_ret
  exact ⟨by first|rfl|(simp;done)|(simp [*];done),by repeat (first|exact Drawn0.refl _|apply Drawn0.step)⟩
 ·replace c2:=Bool.eq_false_iff.mpr c2
  subst c2
  have H1 : (some 0) = some r:=by rw [if_neg (show ¬ (false = true) by decide)] at H;exact H
  clear H
  have H:=H1
  clear H1
  obtain rfl:=Option.some.inj H
  go_enter Try.func56,Try.ntmps56
  go_wp2
  go_ret
  exact ⟨by first|rfl|(simp;done)|(simp [*];done),by repeat (first|exact Drawn0.refl _|apply Drawn0.step)⟩

def spec_l04Two.f (a0 : Int) (a1 : Int) (a2 : Int) : Option (Int × Bool):=if a0 = 4 then (some (wrap64 (a1 + a2),true)) else (if a0 = 5 then (some (wrap64 (a1 - a2),true)) else (if a0 = 6 then (some (wrap64 (a1 * a2),true)) else (if a0 = 7 then (if a2 = 0 then (some (0,false)) else (some (wrap64 (Int.tdiv a1 a2),true))) else (if a0 = 8 then ((spec_l04Flag.f (decide (a1 < a2))).bind fun t319 => (some (t319,true))) else (if a0 = 9 then ((spec_l04Flag.f (a1 == a2)).bind fun t320 => (some (t320,true))) else (if a1 = 0 then ((spec_l04Flag.f false).bind fun t321 => (some (t321,true))) else ((spec_l04Flag.f (a2 != 0)).bind fun t322 => (some (t322,true)))))))))
set_option maxHeartbeats 8000000 in
set_option maxRecDepth 100000 in
theorem spec_l04Two.calls (a0 : Int) (a1 : Int) (a2 : Int) (r1 : Int) (r2 : Bool) (w : World) (h : spec_l04Two.f a0 a1 a2 = some (r1,r2)) :
  Calls Try.prog 57 #[.int .i64 a0,.int .i64 a1,.int .i64 a2] w fun e w' => e = .returned (.tuple #[.int .i64 r1,.bool r2]) ∧ Drawn0 w w':=by
 have H : (if a0 = 4 then (some (wrap64 (a1 + a2),true)) else (if a0 = 5 then (some (wrap64 (a1 - a2),true)) else (if a0 = 6 then (some (wrap64 (a1 * a2),true)) else (if a0 = 7 then (if a2 = 0 then (some (0,false)) else (some (wrap64 (Int.tdiv a1 a2),true))) else (if a0 = 8 then ((spec_l04Flag.f (decide (a1 < a2))).bind fun t319 => (some (t319,true))) else (if a0 = 9 then ((spec_l04Flag.f (a1 == a2)).bind fun t320 => (some (t320,true))) else (if a1 = 0 then ((spec_l04Flag.f false).bind fun t321 => (some (t321,true))) else ((spec_l04Flag.f (a2 != 0)).bind fun t322 => (some (t322,true)))))))))) = some (r1,r2):=h
 clear h
 by_cases c4 : a0 = 4
 ·rw [if_pos c4] at H
  have c4b0 : (a0 == 4) = true:=beq_iff_eq.mpr c4
  have c4b1 : (a0 != 4) = false:=bne_eq_false_iff_eq.mpr c4
  clear c4
  simp only [Option.some.injEq,Prod.mk.injEq] at H
  obtain ⟨rfl,rfl⟩:=H
  go_enter Try.func57,Try.ntmps57
  go_wp2
  go_ret2
  exact ⟨by first|rfl|(simp;done)|(simp [*];done),by repeat (first|exact Drawn0.refl _|apply Drawn0.step)⟩
 ·rw [if_neg c4] at H
  have c4b0 : (a0 == 4) = false:=beq_eq_false_iff_ne.mpr c4
  have c4b1 : (a0 != 4) = true:=bne_iff_ne.mpr c4
  by_cases c5 : a0 = 5
  ·rw [if_pos c5] at H
   have c5b0 : (a0 == 5) = true:=beq_iff_eq.mpr c5
   have c5b1 : (a0 != 5) = false:=bne_eq_false_iff_eq.mpr c5
   clear c5
   simp only [Option.some.injEq,Prod.mk.injEq] at H
   obtain ⟨rfl,rfl⟩:=H
   go_enter Try.func57,Try.ntmps57
   go_wp2
   go_ret2
   exact ⟨by first|rfl|(simp;done)|(simp [*];done),by repeat (first|exact Drawn0.refl _|apply Drawn0.step)⟩
  ·rw [if_neg c5] at H
   have c5b0 : (a0 == 5) = false:=beq_eq_false_iff_ne.mpr c5
   have c5b1 : (a0 != 5) = true:=bne_iff_ne.mpr c5
   by_cases c6 : a0 = 6
   ·rw [if_pos c6] at H
    have c6b0 : (a0 == 6) = true:=beq_iff_eq.mpr c6
    have c6b1 : (a0 != 6) = false:=bne_eq_false_iff_eq.mpr c6
    clear c6
    simp only [Option.some.injEq,Prod.mk.injEq] at H
    obtain ⟨rfl,rfl⟩:=H
    go_enter Try.func57,Try.ntmps57
    go_wp2
    go_ret2
    exact ⟨by first|rfl|(simp;done)|(simp [*];done),by repeat (first|exact Drawn0.refl _|apply Drawn0.step)⟩
   ·rw [if_neg c6] at H
    have c6b0 : (a0 == 6) = false:=beq_eq_false_iff_ne.mpr c6
    have c6b1 : (a0 != 6) = true:=bne_iff_ne.mpr c6
    by_cases c7 : a0 = 7
    ·rw [if_pos c7] at H
     have c7b0 : (a0 == 7) = true:=beq_iff_eq.mpr c7
     have c7b1 : (a0 != 7) = false:=bne_eq_false_iff_eq.mpr c7
     clear c7
     by_cases c8 : a2 = 0
     ·rw [if_pos c8] at H
      have c8b0 : (a2 == 0) = true:=beq_iff_eq.mpr c8
      have c8b1 : (a2 != 0) = false:=bne_eq_false_iff_eq.mpr c8
      clear c8
      simp only [Option.some.injEq,Prod.mk.injEq] at H
      obtain ⟨rfl,rfl⟩:=H
      go_enter Try.func57,Try.ntmps57
      go_wp2
      go_ret2
      exact ⟨by first|rfl|(simp;done)|(simp [*];done),by repeat (first|exact Drawn0.refl _|apply Drawn0.step)⟩
     ·rw [if_neg c8] at H
      have c8b0 : (a2 == 0) = false:=beq_eq_false_iff_ne.mpr c8
      have c8b1 : (a2 != 0) = true:=bne_iff_ne.mpr c8
      simp only [Option.some.injEq,Prod.mk.injEq] at H
      obtain ⟨rfl,rfl⟩:=H
      go_enter Try.func57,Try.ntmps57
      go_wp2
      go_ret2
      exact ⟨by first|rfl|(simp;done)|(simp [*];done),by repeat (first|exact Drawn0.refl _|apply Drawn0.step)⟩
    ·rw [if_neg c7] at H
     have c7b0 : (a0 == 7) = false:=beq_eq_false_iff_ne.mpr c7
     have c7b1 : (a0 != 7) = true:=bne_iff_ne.mpr c7
     by_cases c9 : a0 = 8
     ·rw [if_pos c9] at H
      have c9b0 : (a0 == 8) = true:=beq_iff_eq.mpr c9
      have c9b1 : (a0 != 8) = false:=bne_eq_false_iff_eq.mpr c9
      clear c9
      replace H:=Option.bind_eq_some_iff.mp H
      obtain ⟨t319,A100,H⟩:=H
      replace H : (some (t319,true)) = some (r1,r2):=H
      have A10:=zm_ A100
      clear A100
      simp only [Option.some.injEq,Prod.mk.injEq] at H
      obtain ⟨rfl,rfl⟩:=H
      go_enter Try.func57,Try.ntmps57
      go_wp2_with (first|((with_reducible refine gate_callee (f:=56) rfl ?_);refine goesL_ (some 36) rfl rfl Try.func56 (by kernel_rfl) rfl #[.bool (decide (a1 < a2))] rfl zq_ ?_;(with_reducible refine (spec_l04Flag.calls (decide (a1 < a2)) t319 _ A10.out).mono ?_);rintro e w' ⟨rfl,⟨nd,rfl⟩⟩;refine ⟨_,rfl,?_⟩))
      go_ret2
      exact ⟨by first|rfl|(simp;done)|(simp [*];done),by repeat (first|exact Drawn0.refl _|apply Drawn0.step)⟩
     ·rw [if_neg c9] at H
      have c9b0 : (a0 == 8) = false:=beq_eq_false_iff_ne.mpr c9
      have c9b1 : (a0 != 8) = true:=bne_iff_ne.mpr c9
      by_cases c11 : a0 = 9
      ·rw [if_pos c11] at H
       have c11b0 : (a0 == 9) = true:=beq_iff_eq.mpr c11
       have c11b1 : (a0 != 9) = false:=bne_eq_false_iff_eq.mpr c11
       clear c11
       replace H:=Option.bind_eq_some_iff.mp H
       obtain ⟨t320,A120,H⟩:=H
       replace H : (some (t320,true)) = some (r1,r2):=H
       have A12:=zm_ A120
       clear A120
       simp only [Option.some.injEq,Prod.mk.injEq] at H
       obtain ⟨rfl,rfl⟩:=H
       go_enter Try.func57,Try.ntmps57
       go_wp2_with (first|((with_reducible refine gate_callee (f:=56) rfl ?_);refine goesL_ (some 42) rfl rfl Try.func56 (by kernel_rfl) rfl #[.bool (a1 == a2)] rfl zq_ ?_;(with_reducible refine (spec_l04Flag.calls (a1 == a2) t320 _ A12.out).mono ?_);rintro e w' ⟨rfl,⟨nd,rfl⟩⟩;refine ⟨_,rfl,?_⟩))
       go_ret2
       exact ⟨by first|rfl|(simp;done)|(simp [*];done),by repeat (first|exact Drawn0.refl _|apply Drawn0.step)⟩
      ·rw [if_neg c11] at H
       have c11b0 : (a0 == 9) = false:=beq_eq_false_iff_ne.mpr c11
       have c11b1 : (a0 != 9) = true:=bne_iff_ne.mpr c11
       by_cases c13 : a1 = 0
       ·rw [if_pos c13] at H
        have c13b0 : (a1 == 0) = true:=beq_iff_eq.mpr c13
        have c13b1 : (a1 != 0) = false:=bne_eq_false_iff_eq.mpr c13
        clear c13
        replace H:=Option.bind_eq_some_iff.mp H
        obtain ⟨t321,A140,H⟩:=H
        replace H : (some (t321,true)) = some (r1,r2):=H
        have A14:=zm_ A140
        clear A140
        simp only [Option.some.injEq,Prod.mk.injEq] at H
        obtain ⟨rfl,rfl⟩:=H
        go_enter Try.func57,Try.ntmps57
        go_wp2_with (first|((with_reducible refine gate_callee (f:=56) rfl ?_);refine goesL_ (some 49) rfl rfl Try.func56 (by kernel_rfl) rfl #[.bool false] rfl zq_ ?_;(with_reducible refine (spec_l04Flag.calls false t321 _ A14.out).mono ?_);rintro e w' ⟨rfl,⟨nd,rfl⟩⟩;refine ⟨_,rfl,?_⟩))
        go_ret2
        exact ⟨by first|rfl|(simp;done)|(simp [*];done),by repeat (first|exact Drawn0.refl _|apply Drawn0.step)⟩
       ·rw [if_neg c13] at H
        have c13b0 : (a1 == 0) = false:=beq_eq_false_iff_ne.mpr c13
        have c13b1 : (a1 != 0) = true:=bne_iff_ne.mpr c13
        replace H:=Option.bind_eq_some_iff.mp H
        obtain ⟨t322,A150,H⟩:=H
        replace H : (some (t322,true)) = some (r1,r2):=H
        have A15:=zm_ A150
        clear A150
        simp only [Option.some.injEq,Prod.mk.injEq] at H
        obtain ⟨rfl,rfl⟩:=H
        go_enter Try.func57,Try.ntmps57
        go_wp2_with (first|((with_reducible refine gate_callee (f:=56) rfl ?_);refine goesL_ (some 49) rfl rfl Try.func56 (by kernel_rfl) rfl #[.bool (a2 != 0)] rfl zq_ ?_;(with_reducible refine (spec_l04Flag.calls (a2 != 0) t322 _ A15.out).mono ?_);rintro e w' ⟨rfl,⟨nd,rfl⟩⟩;refine ⟨_,rfl,?_⟩))
        go_ret2
        exact ⟨by first|rfl|(simp;done)|(simp [*];done),by repeat (first|exact Drawn0.refl _|apply Drawn0.step)⟩

end Go.Proofs.Ytnmhggdaccbbfaa.MFnExprs
