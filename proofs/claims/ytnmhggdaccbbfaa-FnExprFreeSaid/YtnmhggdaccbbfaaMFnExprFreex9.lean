import Derived.Test.YtnmhggdaccbbfaaMFnExprFreex0
import Derived.Test.YtnmhggdaccbbfaaMFnExprFreex2
import Derived.Test.YtnmhggdaccbbfaaMFnExprFreex8
namespace Go.Proofs.Ytnmhggdaccbbfaa.MFnExprFree
open Go.RowKit Go.Proofs.YtnmhggdaccbbfaaW.PrintWords Go.Proofs.YtnmhggdaccbbfaaW.PrintLast Go.Proofs.YtnmhggdaccbbfaaW.PrintMore
attribute [local go_sem] max2_int min2_int max_two min_two max_three min_three max_four min_four
set_option linter.unusedVariables false
set_option linter.unusedSimpArgs false
theorem zt9_5 {p : Prop} (h : p := by (with_reducible repeat (first|apply Kd.R_alloc|apply Kd.R_drewN|apply Kd.R_drew));exact HO_3.out) : p := h
theorem zt9_4 {p : Prop} (h : p := by (with_reducible repeat first|refine zl_ ?_ _|refine zr_ ?_|refine zk_ ?_ _);exact BK307.out) : p := h
theorem zt9_3 {p : Prop} (h : p := by repeat (first|(with_reducible first|exact HB.out|apply za_|apply zn_|apply zd_|refine zs_ ?_ GE307.out)|exact HB.out)) : p := h
theorem zt9_2 {p : Prop} (h : p := by (with_reducible repeat first|refine zl_ ?_ _|refine zr_ ?_|refine zk_ ?_ _);exact BK317.out) : p := h
theorem zt9_1 {p : Prop} (h : p := by repeat (first|(with_reducible first|exact HB.out|apply za_|apply zn_|apply zd_|refine zs_ ?_ GE317.out)|exact HB.out)) : p := h

mutual
def spec_l03Put.l0 : Nat → List ByteArray → ByteArray → List ByteArray → Int → Option (List ByteArray)
 |0,_,_,_,_ => none
 |k + 1,x0,x1,x5,x6 => if x6 < (x0.length : Int) then (if 0 ≤ x6 then (if (Op.bytesLess ((rdOf ByteArray.empty x0 x6).toList) x1.toList) = true then (if x5.length < 8796093022208 then (spec_l03Put.l0 k x0 x1 (x5 ++ [rdOf ByteArray.empty x0 x6]) (wrap64 (x6 + 1))) else (none)) else (spec_l03Put.l0 k x0 x1 x5 (wrap64 (x6 + 1)))) else (none)) else (if x5.length < 8796093022208 then (spec_l03Put.l1 k x0 x1 (x5 ++ [x1]) 0) else (none))
def spec_l03Put.l1 : Nat → List ByteArray → ByteArray → List ByteArray → Int → Option (List ByteArray)
 |0,_,_,_,_ => none
 |k + 1,x0,x1,x5,x7 => if x7 < (x0.length : Int) then (if 0 ≤ x7 then (if (Op.bytesLess x1.toList ((rdOf ByteArray.empty x0 x7).toList)) = true then (if x5.length < 8796093022208 then (spec_l03Put.l1 k x0 x1 (x5 ++ [rdOf ByteArray.empty x0 x7]) (wrap64 (x7 + 1))) else (none)) else (spec_l03Put.l1 k x0 x1 x5 (wrap64 (x7 + 1)))) else (none)) else (some x5)
end
def spec_l03Put.f (k : Nat) (l0 : List ByteArray) (a1 : ByteArray) : Option (List ByteArray):=spec_l03Put.l0 k l0 a1 (([] : List ByteArray)) 0
theorem spec_l03Put.mono_l : ∀ k,(∀ y0 y1 y2 y3,LeO (spec_l03Put.l0 k y0 y1 y2 y3) (spec_l03Put.l0 (k + 1) y0 y1 y2 y3)) ∧ (∀ y0 y1 y2 y3,LeO (spec_l03Put.l1 k y0 y1 y2 y3) (spec_l03Put.l1 (k + 1) y0 y1 y2 y3))
 |0 => ⟨fun _ _ _ _ r h => by simp [spec_l03Put.l0] at h,fun _ _ _ _ r h => by simp [spec_l03Put.l1] at h⟩
 |k + 1 => by
  obtain ⟨ih0,ih1⟩:=spec_l03Put.mono_l k
  refine ⟨?_,?_⟩
  ·intro y0 y1 y2 y3
   unfold spec_l03Put.l0
   repeat' first
   |(with_reducible exact ih0 _ _ _ _)
   |(with_reducible exact ih1 _ _ _ _)
   |(with_reducible exact LeO.refl _)
   |(with_reducible exact LeO.none _)
   |(with_reducible refine LeO.ite ?_ ?_)
   |(with_reducible refine LeO.bind ?_ (fun _ => ?_))
  ·intro y0 y1 y2 y3
   unfold spec_l03Put.l1
   repeat' first
   |(with_reducible exact ih0 _ _ _ _)
   |(with_reducible exact ih1 _ _ _ _)
   |(with_reducible exact LeO.refl _)
   |(with_reducible exact LeO.none _)
   |(with_reducible refine LeO.ite ?_ ?_)
   |(with_reducible refine LeO.bind ?_ (fun _ => ?_))
theorem spec_l03Put.mono : ∀ a0 a1 k,LeO (spec_l03Put.f k a0 a1) (spec_l03Put.f (k + 1) a0 a1):=by
 intro a0 a1 k
 obtain ⟨ih0,ih1⟩:=spec_l03Put.mono_l k
 unfold spec_l03Put.f
 repeat' first
   |(with_reducible exact ih0 _ _ _ _)
   |(with_reducible exact ih1 _ _ _ _)
   |(with_reducible exact LeO.refl _)
   |(with_reducible exact LeO.none _)
   |(with_reducible refine LeO.ite ?_ ?_)
   |(with_reducible refine LeO.bind ?_ (fun _ => ?_))
set_option maxHeartbeats 8000000 in
set_option maxRecDepth 100000 in
theorem spec_l03Put.calls (k : Nat) (A0 : Option Addr) (c0 : Nat) (l0 : List ByteArray) (a1 : ByteArray) (r : List ByteArray) (w : World) (hr0 : Kd.C Kd.string w A0 l0.length l0) (hc0 : l0.length ≤ c0) (h : spec_l03Put.f k l0 a1 = some r) :
  Calls Try.prog 69 #[.slice A0 l0.length c0,.string a1] w fun e w' => ∃ v0_ : Value,e = .returned (v0_) ∧ Kd.R Kd.string 9 w' w.heap.size (fun _ => True) v0_ r ∧ Below w.heap.size w w':=by
 have HR0:=zm_ hr0
 have HC0:=zm_ hc0
 clear hr0 hc0
 have HB:=zm_ (Below.refl w.heap.size w)
 have H : (spec_l03Put.l0 k l0 a1 (([] : List ByteArray)) 0) = some r:=h
 clear h
 obtain ⟨y291,hy291⟩ : ∃ y_ : List ByteArray,y_ = (([] : List ByteArray)):=⟨_,rfl⟩
 replace H : (spec_l03Put.l0 k l0 a1 y291 0) = some r:=by first|(rw [hy291];with_reducible exact H)|(have H2_:=(Option.bind_some _ _).symm.trans H;rw [hy291];with_reducible exact H2_)|(have H2_:=(Option.bind_some _ _).symm.trans H;with_reducible exact H2_)|with_reducible exact H|(rw [hy291];exact H)|exact H
 have Ny291:=zm_ hy291
 clear hy291
 have H':=zm_ H
 clear H
 go_enter Try.func69,Try.ntmps69
 go_wp2_with (first|((with_reducible refine gate_dst (N:=8) rfl ?_);refine Kd.R_lit Kd.string _ 9 ?hg (N:=8) ?hd (xs:=([] : List ByteArray)) (inner:=[]) (ok:=fun _ => True) (okp:=fun _ => True) ?hr ?hp (fun _ hk => hk) trivial (Below.refl _ _) (Nat.le_refl _) (by simp) ?_;(case hd => rfl);(case hg => rfl);(case hr => first|(go_simp;done)|(go_simp;rfl));(case hp => exact (Reps.none _ _));intro v292 w3 ho4 hb hg_ hnew_;clear hg_ hnew_;(first|rw [← Ny291.out] at ho4|(simp only [Int.reduceToNat] at ho4;rw [← Ny291.out] at ho4));have n0_:=zm_ (Kd.R_lower ho4 (below_size zB_));have n1_:=zm_ (below_step zB_ hb);clear HB;have HO293:=n0_;have HB:=n1_;clear n0_ n1_;clear hb ho4))
 go_loopg [5,6] k (fun kq v5 v6 w' => ∃ (x5_1 : List ByteArray) (x6_1 : Int),v6 = .int .i64 x6_1 ∧ Aside0 (spec_l03Put.l0 kq l0 a1 x5_1 x6_1 = some r) ∧ Aside0 (kq ≤ k) ∧ Aside0 (Kd.R Kd.string 9 w' w.heap.size (fun _ => True) v5 x5_1) ∧ Aside0 (Below w.heap.size w w'))
 case atStart => exact ⟨(y291),(0),zV_,H',⟨Nat.le_refl _⟩,⟨by (with_reducible repeat (first|apply Kd.R_alloc|apply Kd.R_drewN|apply Kd.R_drew));exact HO293.out⟩,⟨by repeat (first|(with_reducible first|exact HB.out|apply za_|apply zn_|apply zd_)|exact HB.out)⟩⟩
 case round =>
  clear H'
  try clear p2
  obtain ⟨x5_1,x6_1,rfl,HA,HK1,HO_5,HB⟩:=hrel
  cases gk with
  |zero => exact absurd HA.out (by simp [spec_l03Put.l0])
  |succ k1 =>
   have H:=HA.out
   clear HA
   simp only [spec_l03Put.l0] at H
   by_cases c5 : x6_1 < (l0.length : Int)
   ·rw [if_pos c5] at H
    have c5b0 : decide (x6_1 < (l0.length : Int)) = true:=decide_eq_true c5
    clear c5
    by_cases c6 : 0 ≤ x6_1
    ·rw [if_pos c6] at H
     have c6b0 : decide (0 ≤ x6_1) = true:=decide_eq_true c6
     clear c6
     by_cases c7 : (Op.bytesLess ((rdOf ByteArray.empty l0 x6_1).toList) a1.toList) = true
     ·rw [if_pos c7] at H
      have c7b0 : (Op.bytesLess ((rdOf ByteArray.empty l0 x6_1).toList) a1.toList) = true:=c7
      clear c7
      by_cases c8 : x5_1.length < 8796093022208
      ·rw [if_pos c8] at H
       have LMc8:=zm_ c8
       clear c8
       obtain ⟨y296,hy296⟩ : ∃ y_ : List ByteArray,y_ = (x5_1 ++ [rdOf ByteArray.empty l0 x6_1]):=⟨_,rfl⟩
       replace H : (spec_l03Put.l0 k1 l0 a1 y296 (wrap64 (x6_1 + 1))) = some r:=by first|(rw [hy296];with_reducible exact H)|(have H2_:=(Option.bind_some _ _).symm.trans H;rw [hy296];with_reducible exact H2_)|(have H2_:=(Option.bind_some _ _).symm.trans H;with_reducible exact H2_)|with_reducible exact H|(rw [hy296];exact H)|exact H
       have Ny296:=zm_ hy296
       clear hy296
       have H':=zm_ H
       clear H
       have p294 : 0 ≤ (x6_1 : Int):=zo_
       have q294 : x6_1 < (l0.length : Int):=zo_
       obtain ⟨ad294,e294,hx294_0⟩:=Kd.at_string HR0.out x6_1 p294 q294
       cases e294
       replace hx294_0:=(HB.out.cell (zb_ w _ hx294_0)).trans hx294_0
       replace p294:=eq_true p294
       replace q294:=eq_true q294
       have p295 : 0 ≤ (x6_1 : Int):=zo_
       have q295 : x6_1 < (l0.length : Int):=zo_
       obtain ⟨ad295,e295,hx295_0⟩:=Kd.at_string HR0.out x6_1 p295 q295
       obtain rfl : ad294 = ad295:=(by injection e295)
       replace hx295_0:=(HB.out.cell (zb_ w _ hx295_0)).trans hx295_0
       replace p295:=eq_true p295
       replace q295:=eq_true q295
       go_wp2_with (first|((with_reducible refine gate_builtin (b:=.append) (xs:=#[.tmp 21,.tmp 26]) rfl ?_);at_builtin;refine Kd.R_append Kd.string (w0:=w) w.heap.size rfl (.tmp 21) (.tmp 26) 61 9 (.string ⟨#[]⟩) 16 rfl Try.underlying61 info9 rfl (by decide) (by omega) u5 x5_1 (rdOf ByteArray.empty l0 x6_1) [.string (rdOf ByteArray.empty l0 x6_1)] (fun _ => True) (fun _ => False) rfl rfl ?aP (fun _ hk => hk.elim) ?aF ?aO ?aB ?aS ?aL ?_;(case aP => exact rfl);(case aB => exact zB_);(case aF => exact (fun _ _ => trivial));(case aO => exact (by (with_reducible repeat (first|apply Kd.R_alloc|apply Kd.R_drewN|apply Kd.R_drew));exact HO_5.out));(case aS => exact (below_size zB_));(case aL => have:=LMc8.out;omega);intro v297 w9 ho hb hg hat;rw [← Ny296.out] at ho;have n0_:=zm_ (hb);have n1_:=zm_ (ho);clear HB;clear HO_5;have HB:=n0_;have HO298:=n1_;clear n0_ n1_;clear ho hb hg hat))
       go_roundg k1
       case measure => have:=HK1.out;omega
       case rel => exact ⟨(y296),(wrap64 (x6_1 + 1)),zV_,H',⟨by have:=HK1.out;omega⟩,⟨by (with_reducible repeat (first|apply Kd.R_alloc|apply Kd.R_drewN|apply Kd.R_drew));exact HO298.out⟩,⟨by repeat (first|(with_reducible first|exact HB.out|apply za_|apply zn_|apply zd_)|exact HB.out)⟩⟩
      ·rw [if_neg c8] at H
       exact absurd H (by simp)
     ·rw [if_neg c7] at H
      have c7b0 : (Op.bytesLess ((rdOf ByteArray.empty l0 x6_1).toList) a1.toList) = false:=by simpa using c7
      clear c7
      have H':=zm_ H
      clear H
      have p294 : 0 ≤ (x6_1 : Int):=zo_
      have q294 : x6_1 < (l0.length : Int):=zo_
      obtain ⟨ad294,e294,hx294_0⟩:=Kd.at_string HR0.out x6_1 p294 q294
      cases e294
      replace hx294_0:=(HB.out.cell (zb_ w _ hx294_0)).trans hx294_0
      replace p294:=eq_true p294
      replace q294:=eq_true q294
      go_wp2
      go_roundg k1
      case measure => have:=HK1.out;omega
      case rel => exact ⟨(x5_1),(wrap64 (x6_1 + 1)),zV_,H',⟨by have:=HK1.out;omega⟩,⟨by (with_reducible repeat (first|apply Kd.R_alloc|apply Kd.R_drewN|apply Kd.R_drew));exact HO_5.out⟩,⟨by repeat (first|(with_reducible first|exact HB.out|apply za_|apply zn_|apply zd_)|exact HB.out)⟩⟩
    ·rw [if_neg c6] at H
     exact absurd H (by simp)
   ·rw [if_neg c5] at H
    have c5b0 : decide (x6_1 < (l0.length : Int)) = false:=decide_eq_false c5
    clear c5
    by_cases c10 : x5_1.length < 8796093022208
    ·rw [if_pos c10] at H
     have LMc10:=zm_ c10
     clear c10
     obtain ⟨y299,hy299⟩ : ∃ y_ : List ByteArray,y_ = (x5_1 ++ [a1]):=⟨_,rfl⟩
     replace H : (spec_l03Put.l1 k1 l0 a1 y299 0) = some r:=by first|(rw [hy299];with_reducible exact H)|(have H2_:=(Option.bind_some _ _).symm.trans H;rw [hy299];with_reducible exact H2_)|(have H2_:=(Option.bind_some _ _).symm.trans H;with_reducible exact H2_)|with_reducible exact H|(rw [hy299];exact H)|exact H
     have Ny299:=zm_ hy299
     clear hy299
     have H':=zm_ H
     clear H
     go_wp2_with (first|((with_reducible refine gate_builtin (b:=.append) (xs:=#[.tmp 28,.tmp 30]) rfl ?_);at_builtin;refine Kd.R_append Kd.string (w0:=w) w.heap.size rfl (.tmp 28) (.tmp 30) 61 9 (.string ⟨#[]⟩) 16 rfl Try.underlying61 info9 rfl (by decide) (by omega) u5 x5_1 a1 [.string a1] (fun _ => True) (fun _ => False) rfl rfl ?aP (fun _ hk => hk.elim) ?aF ?aO ?aB ?aS ?aL ?_;(case aP => exact rfl);(case aB => exact zB_);(case aF => exact (fun _ _ => trivial));(case aO => exact (by (with_reducible repeat (first|apply Kd.R_alloc|apply Kd.R_drewN|apply Kd.R_drew));exact HO_5.out));(case aS => exact (below_size zB_));(case aL => have:=LMc10.out;omega);intro v300 w11 ho hb hg hat;rw [← Ny299.out] at ho;have n0_:=zm_ (hb);have n1_:=zm_ (ho);clear HB;clear HO_5;have HB:=n0_;have HO301:=n1_;clear n0_ n1_;clear ho hb hg hat))
     go_loopg [5,7] k1 (fun kq v5 v7 w' => ∃ (x5_2 : List ByteArray) (x7_2 : Int),v7 = .int .i64 x7_2 ∧ Aside0 (spec_l03Put.l1 kq l0 a1 x5_2 x7_2 = some r) ∧ Aside0 (kq ≤ k1) ∧ Aside0 (Kd.R Kd.string 9 w' w.heap.size (fun _ => True) v5 x5_2) ∧ Aside0 (Below w.heap.size w w'))
     case atStart => exact ⟨(y299),(0),zV_,H',⟨Nat.le_refl _⟩,⟨by (with_reducible repeat (first|apply Kd.R_alloc|apply Kd.R_drewN|apply Kd.R_drew));exact HO301.out⟩,⟨by repeat (first|(with_reducible first|exact HB.out|apply za_|apply zn_|apply zd_)|exact HB.out)⟩⟩
     case round =>
      clear H'
      try clear c1
      try clear p2
      try clear q2
      try clear hx2
      try clear c5
      try clear c5b0
      try clear c6
      try clear c6b0
      try clear p6
      try clear c7
      try clear c7b0
      try clear c8
      try clear c10
      try clear hx294_0
      try clear hx295_0
      try clear p2
      try clear p294
      try clear p295
      try clear q294
      try clear q295
      obtain ⟨x5_2,x7_2,rfl,HA,HK2,HO_5,HB⟩:=hrel
      cases gk with
      |zero => exact absurd HA.out (by simp [spec_l03Put.l1])
      |succ k2 =>
       have H:=HA.out
       clear HA
       simp only [spec_l03Put.l1] at H
       by_cases c12 : x7_2 < (l0.length : Int)
       ·rw [if_pos c12] at H
        have c12b0 : decide (x7_2 < (l0.length : Int)) = true:=decide_eq_true c12
        clear c12
        by_cases c13 : 0 ≤ x7_2
        ·rw [if_pos c13] at H
         have c13b0 : decide (0 ≤ x7_2) = true:=decide_eq_true c13
         clear c13
         by_cases c14 : (Op.bytesLess a1.toList ((rdOf ByteArray.empty l0 x7_2).toList)) = true
         ·rw [if_pos c14] at H
          have c14b0 : (Op.bytesLess a1.toList ((rdOf ByteArray.empty l0 x7_2).toList)) = true:=c14
          clear c14
          by_cases c15 : x5_2.length < 8796093022208
          ·rw [if_pos c15] at H
           have LMc15:=zm_ c15
           clear c15
           obtain ⟨y304,hy304⟩ : ∃ y_ : List ByteArray,y_ = (x5_2 ++ [rdOf ByteArray.empty l0 x7_2]):=⟨_,rfl⟩
           replace H : (spec_l03Put.l1 k2 l0 a1 y304 (wrap64 (x7_2 + 1))) = some r:=by first|(rw [hy304];with_reducible exact H)|(have H2_:=(Option.bind_some _ _).symm.trans H;rw [hy304];with_reducible exact H2_)|(have H2_:=(Option.bind_some _ _).symm.trans H;with_reducible exact H2_)|with_reducible exact H|(rw [hy304];exact H)|exact H
           have Ny304:=zm_ hy304
           clear hy304
           have H':=zm_ H
           clear H
           have p302 : 0 ≤ (x7_2 : Int):=zo_
           have q302 : x7_2 < (l0.length : Int):=zo_
           obtain ⟨ad302,e302,hx302_0⟩:=Kd.at_string HR0.out x7_2 p302 q302
           cases e302
           replace hx302_0:=(HB.out.cell (zb_ w _ hx302_0)).trans hx302_0
           replace p302:=eq_true p302
           replace q302:=eq_true q302
           have p303 : 0 ≤ (x7_2 : Int):=zo_
           have q303 : x7_2 < (l0.length : Int):=zo_
           obtain ⟨ad303,e303,hx303_0⟩:=Kd.at_string HR0.out x7_2 p303 q303
           obtain rfl : ad302 = ad303:=(by injection e303)
           replace hx303_0:=(HB.out.cell (zb_ w _ hx303_0)).trans hx303_0
           replace p303:=eq_true p303
           replace q303:=eq_true q303
           go_wp2_with (first|((with_reducible refine gate_builtin (b:=.append) (xs:=#[.tmp 44,.tmp 49]) rfl ?_);at_builtin;refine Kd.R_append Kd.string (w0:=w) w.heap.size rfl (.tmp 44) (.tmp 49) 61 9 (.string ⟨#[]⟩) 16 rfl Try.underlying61 info9 rfl (by decide) (by omega) u5 x5_2 (rdOf ByteArray.empty l0 x7_2) [.string (rdOf ByteArray.empty l0 x7_2)] (fun _ => True) (fun _ => False) rfl rfl ?aP (fun _ hk => hk.elim) ?aF ?aO ?aB ?aS ?aL ?_;(case aP => exact rfl);(case aB => exact zB_);(case aF => exact (fun _ _ => trivial));(case aO => exact (by (with_reducible repeat (first|apply Kd.R_alloc|apply Kd.R_drewN|apply Kd.R_drew));exact HO_5.out));(case aS => exact (below_size zB_));(case aL => have:=LMc15.out;omega);intro v305 w16 ho hb hg hat;rw [← Ny304.out] at ho;have n0_:=zm_ (hb);have n1_:=zm_ (ho);clear HB;clear HO_5;have HB:=n0_;have HO306:=n1_;clear n0_ n1_;clear ho hb hg hat))
           go_roundg k2
           case measure => have:=HK1.out;have:=HK2.out;omega
           case rel => exact ⟨(y304),(wrap64 (x7_2 + 1)),zV_,H',⟨by have:=HK1.out;have:=HK2.out;omega⟩,⟨by (with_reducible repeat (first|apply Kd.R_alloc|apply Kd.R_drewN|apply Kd.R_drew));exact HO306.out⟩,⟨by repeat (first|(with_reducible first|exact HB.out|apply za_|apply zn_|apply zd_)|exact HB.out)⟩⟩
          ·rw [if_neg c15] at H
           exact absurd H (by simp)
         ·rw [if_neg c14] at H
          have c14b0 : (Op.bytesLess a1.toList ((rdOf ByteArray.empty l0 x7_2).toList)) = false:=by simpa using c14
          clear c14
          have H':=zm_ H
          clear H
          have p302 : 0 ≤ (x7_2 : Int):=zo_
          have q302 : x7_2 < (l0.length : Int):=zo_
          obtain ⟨ad302,e302,hx302_0⟩:=Kd.at_string HR0.out x7_2 p302 q302
          cases e302
          replace hx302_0:=(HB.out.cell (zb_ w _ hx302_0)).trans hx302_0
          replace p302:=eq_true p302
          replace q302:=eq_true q302
          go_wp2
          go_roundg k2
          case measure => have:=HK1.out;have:=HK2.out;omega
          case rel => exact ⟨(x5_2),(wrap64 (x7_2 + 1)),zV_,H',⟨by have:=HK1.out;have:=HK2.out;omega⟩,⟨by (with_reducible repeat (first|apply Kd.R_alloc|apply Kd.R_drewN|apply Kd.R_drew));exact HO_5.out⟩,⟨by repeat (first|(with_reducible first|exact HB.out|apply za_|apply zn_|apply zd_)|exact HB.out)⟩⟩
        ·rw [if_neg c13] at H
         exact absurd H (by simp)
       ·rw [if_neg c12] at H
        have c12b0 : decide (x7_2 < (l0.length : Int)) = false:=decide_eq_false c12
        clear c12
        obtain rfl:=Option.some.inj H
        go_wp2
        go_ret
        exact ⟨_,by first|rfl|(simp [errW_none,errW_some] <;> rfl)|(simp [*,errW_none,errW_some] <;> rfl),by (with_reducible repeat (first|apply Kd.R_alloc|apply Kd.R_drewN|apply Kd.R_drew));exact HO_5.out,by repeat (first|(with_reducible first|exact HB.out|apply za_|apply zn_|apply zd_)|exact HB.out)⟩
    ·rw [if_neg c10] at H
     exact absurd H (by simp)

def spec_FreeOf.l0 : Nat → List ByteArray → Int → List (S34) → Option (List ByteArray)
 |0,_,_,_ => none
 |k + 1,x3,x4,x308000 => if x4 < (x308000.length : Int) then (if 0 ≤ x4 then (if ((rd_T34 x308000 x4).f0) = 2 then ((spec_l03Put.f k x3 ((rd_T34 x308000 x4).f2)).bind fun t314 => (spec_FreeOf.l0 k t314 (wrap64 (x4 + 1)) x308000)) else (spec_FreeOf.l0 k x3 (wrap64 (x4 + 1)) x308000)) else (none)) else (some x3)
def spec_FreeOf.f (k : Nat) (l0_0 : List (S34)) : Option (List ByteArray):=(some (([] : List ByteArray) : List ByteArray)).bind fun y308 => ((spec_ExprOk.f k l0_0).bind fun t311 => (if t311 = true then (spec_FreeOf.l0 k y308 0 l0_0) else (some y308)))
theorem spec_FreeOf.mono_l : ∀ k,(∀ y0 y1 y2,LeO (spec_FreeOf.l0 k y0 y1 y2) (spec_FreeOf.l0 (k + 1) y0 y1 y2))
 |0 => fun _ _ _ r h => by simp [spec_FreeOf.l0] at h
 |k + 1 => by
  have ih0:=spec_FreeOf.mono_l k
  ·intro y0 y1 y2
   unfold spec_FreeOf.l0
   repeat' first
   |(with_reducible exact ih0 _ _ _)
   |(with_reducible exact spec_ExprOk.mono _ _)
   |(with_reducible exact spec_l03Put.mono _ _ _)
   |(with_reducible exact LeO.refl _)
   |(with_reducible exact LeO.none _)
   |(with_reducible refine LeO.ite ?_ ?_)
   |(with_reducible refine LeO.bind ?_ (fun _ => ?_))
theorem spec_FreeOf.mono : ∀ a0 k,LeO (spec_FreeOf.f k a0) (spec_FreeOf.f (k + 1) a0):=by
 intro a0 k
 have ih0:=spec_FreeOf.mono_l k
 unfold spec_FreeOf.f
 repeat' first
   |(with_reducible exact ih0 _ _ _)
   |(with_reducible exact spec_ExprOk.mono _ _)
   |(with_reducible exact spec_l03Put.mono _ _ _)
   |(with_reducible exact LeO.refl _)
   |(with_reducible exact LeO.none _)
   |(with_reducible refine LeO.ite ?_ ?_)
   |(with_reducible refine LeO.bind ?_ (fun _ => ?_))
set_option maxHeartbeats 8000000 in
set_option maxRecDepth 100000 in
theorem spec_FreeOf.calls (k : Nat) (A0_0 : Option Addr) (c0_0 : Nat) (l0_0 : List (S34)) (r : List ByteArray) (w : World) (hr0_0 : Kd.C k34 w A0_0 l0_0.length l0_0) (hc0_0 : l0_0.length ≤ c0_0) (h : spec_FreeOf.f k l0_0 = some r) :
  Calls Try.prog 31 #[.agg #[.slice A0_0 l0_0.length c0_0]] w fun e w' => ∃ v0_ : Value,e = .returned (v0_) ∧ Kd.R Kd.string 9 w' w.heap.size (fun _ => True) v0_ r ∧ Below w.heap.size w w':=by
 have hu28:=Try.underlying28
 have HR0_0:=zm_ hr0_0
 have HC0_0:=zm_ hc0_0
 clear hr0_0 hc0_0
 have HB:=zm_ (Below.refl w.heap.size w)
 have H : ((some (([] : List ByteArray) : List ByteArray)).bind fun y308 => ((spec_ExprOk.f k l0_0).bind fun t311 => (if t311 = true then (spec_FreeOf.l0 k y308 0 l0_0) else (some y308)))) = some r:=h
 clear h
 obtain ⟨y308,hy308⟩ : ∃ y_ : List ByteArray,y_ = (([] : List ByteArray)):=⟨_,rfl⟩
 replace H : ((spec_ExprOk.f k l0_0).bind fun t311 => (if t311 = true then (spec_FreeOf.l0 k y308 0 l0_0) else (some y308))) = some r:=by first|(rw [hy308];with_reducible exact H)|(have H2_:=(Option.bind_some _ _).symm.trans H;rw [hy308];with_reducible exact H2_)|(have H2_:=(Option.bind_some _ _).symm.trans H;with_reducible exact H2_)|with_reducible exact H|(rw [hy308];exact H)|exact H
 have Ny308:=zm_ hy308
 clear hy308
 replace H:=Option.bind_eq_some_iff.mp H
 obtain ⟨t311,A20,H⟩:=H
 replace H : (if t311 = true then (spec_FreeOf.l0 k y308 0 l0_0) else (some y308)) = some r:=H
 have A2:=zm_ A20
 clear A20
 by_cases c3 : t311 = true
 ·subst c3
  have H1 : (spec_FreeOf.l0 k y308 0 l0_0) = some r:=by rw [if_pos rfl] at H;exact H
  clear H
  have H:=H1
  clear H1
  have H':=zm_ H
  clear H
  go_enter Try.func31,Try.ntmps31
  go_wp2_with (first|((with_reducible refine gate_dst (N:=1) rfl ?_);refine box_event ?hg (N:=1) ?hd (cs:=#[.slice A0_0 l0_0.length c0_0]) (t:=28) ?hr ?_;(case hd => rfl);(case hg => rfl);(case hr => first|(go_simp;done)|(go_simp;rfl));intro gb307 hg w4 hbox hb;have n0_:=zm_ (below_step zB_ hb);have n1_:=zm_ (hbox);have n2_:=zm_ ((by rw [hg];exact (below_size zB_) : w.heap.size ≤ gb307));have n3_:=zm_ ((by rw [hg];exact (below_size zB_) : w.heap.size ≤ gb307));clear HB;have HB:=n0_;have BK307:=n1_;have GW307:=n2_;have GE307:=n3_;clear n0_ n1_ n2_ n3_;clear hb hbox hg)|((with_reducible refine gate_dst (N:=5) rfl ?_);refine Kd.R_lit Kd.string _ 9 ?hg (N:=5) ?hd (xs:=([] : List ByteArray)) (inner:=[]) (ok:=fun _ => True) (okp:=fun _ => True) ?hr ?hp (fun _ hk => hk) trivial (Below.refl _ _) (Nat.le_refl _) (by simp) ?_;(case hd => rfl);(case hg => rfl);(case hr => first|(go_simp;done)|(go_simp;rfl));(case hp => exact (Reps.none _ _));intro v309 w5 ho6 hb hg_ hnew_;clear hg_ hnew_;(first|rw [← Ny308.out] at ho6|(simp only [Int.reduceToNat] at ho6;rw [← Ny308.out] at ho6));have n0_:=zm_ (Kd.R_lower ho6 (below_size zt9_3));have n1_:=zm_ (blk_below (g:=gb307) (o:=.cells #[.slice A0_0 l0_0.length c0_0] 28 (0,0)) zt9_4 hb);have n2_:=zm_ (below_step zt9_3 hb);clear BK307;clear HB;have HO310:=n0_;have BK307:=n1_;have HB:=n2_;clear n0_ n1_ n2_;clear hb ho6;have hcz7_0 : w5.cell? ⟨gb307,0,none⟩ = some (.slice A0_0 l0_0.length c0_0):=(zc_ BK307.out 0).trans rfl;have hfz7_0:=zf_ BK307.out 0)|((with_reducible refine gate_callee (f:=15) rfl ?_);refine goesL_ (some 7) rfl rfl Try.func15 (by kernel_rfl) rfl #[.agg #[.slice A0_0 l0_0.length c0_0]] rfl zq_ ?_;(with_reducible refine (spec_ExprOk.calls k _ _ l0_0 true _ ?side1 ?side2 A2.out).mono ?_);(case side1 => repeat (first|exact (Kd.C_below HR0_0.out HB.out)|(with_reducible refine Kd.C_alloc ?_ _)|(with_reducible refine Kd.C_drewN ?_ _)|(with_reducible refine Kd.C_drew ?_)));(case side2 => exact HC0_0.out);rintro e w8 ⟨rfl,hb⟩;refine ⟨_,rfl,?_⟩;have n0_:=zm_ (Kd.R_below (by (with_reducible repeat (first|apply Kd.R_alloc|apply Kd.R_drewN|apply Kd.R_drew));exact HO310.out) hb);have n1_:=zm_ (blk_below (g:=gb307) (o:=.cells #[.slice A0_0 l0_0.length c0_0] 28 (0,0)) zt9_4 hb);have n2_:=zm_ (below_step zt9_3 hb);clear HO310;clear BK307;clear HB;have HO310:=n0_;have BK307:=n1_;have HB:=n2_;clear n0_ n1_ n2_;(try clear hb)))
  go_loopg [3,4] k (fun kq v3 v4 w' => ∃ (x3_1 : List ByteArray) (x4_1 : Int),v4 = .int .i64 x4_1 ∧ Aside0 (spec_FreeOf.l0 kq x3_1 x4_1 l0_0 = some r) ∧ Aside0 (kq ≤ k) ∧ Aside0 (Kd.R Kd.string 9 w' w.heap.size (fun _ => True) v3 x3_1) ∧ Aside0 (w'.heap[gb307]? = some (.cells #[(.slice A0_0 l0_0.length c0_0)] 28 (0,0))) ∧ Aside0 (Below w.heap.size w w'))
  case atStart => exact ⟨(y308),(0),zV_,H',⟨Nat.le_refl _⟩,⟨by (with_reducible repeat (first|apply Kd.R_alloc|apply Kd.R_drewN|apply Kd.R_drew));exact HO310.out⟩,⟨by (with_reducible repeat first|refine zl_ ?_ _|refine zr_ ?_|refine zk_ ?_ _);exact BK307.out⟩,⟨by repeat (first|(with_reducible first|exact HB.out|apply za_|apply zn_|apply zd_|refine zs_ ?_ GE307.out)|exact HB.out)⟩⟩
  case round =>
   clear H'
   try clear c1
   try clear p2
   try clear c3
   try clear hcz7_0
   try clear hfz7_0
   obtain ⟨x3_1,x4_1,rfl,HA,HK1,HO_3,BK307,HB⟩:=hrel
   cases gk with
   |zero => exact absurd HA.out (by simp [spec_FreeOf.l0])
   |succ k1 =>
    have H:=HA.out
    clear HA
    simp only [spec_FreeOf.l0] at H
    by_cases c9 : x4_1 < (l0_0.length : Int)
    ·rw [if_pos c9] at H
     have c9b0 : decide (x4_1 < (l0_0.length : Int)) = true:=decide_eq_true c9
     clear c9
     by_cases c10 : 0 ≤ x4_1
     ·rw [if_pos c10] at H
      have c10b0 : decide (0 ≤ x4_1) = true:=decide_eq_true c10
      clear c10
      by_cases c11 : ((rd_T34 l0_0 x4_1).f0) = 2
      ·rw [if_pos c11] at H
       have c11b0 : (((rd_T34 l0_0 x4_1).f0) == 2) = true:=beq_iff_eq.mpr c11
       have c11b1 : (((rd_T34 l0_0 x4_1).f0) != 2) = false:=bne_eq_false_iff_eq.mpr c11
       clear c11
       replace H:=Option.bind_eq_some_iff.mp H
       obtain ⟨t314,A120,H⟩:=H
       replace H : (spec_FreeOf.l0 k1 t314 (wrap64 (x4_1 + 1)) l0_0) = some r:=H
       have A12:=zm_ A120
       clear A120
       have H':=zm_ H
       clear H
       have hcz13_0 : wr.cell? ⟨gb307,0,none⟩ = some (.slice A0_0 l0_0.length c0_0):=(zc_ BK307.out 0).trans rfl
       have hfz13_0:=zf_ BK307.out 0
       have p312 : 0 ≤ (x4_1 : Int):=zo_
       have q312 : x4_1 < (l0_0.length : Int):=zo_
       obtain ⟨ad312,A312_3,c312_3,e312,hx312_0,hx312_1,hx312_2,hx312_3,hl312_3,hi312_3⟩:=at_T34 HR0_0.out x4_1 p312 q312
       cases e312
       replace hx312_0:=(HB.out.cell (zb_ w _ hx312_0)).trans hx312_0
       replace hx312_1:=(HB.out.cell (zb_ w _ hx312_1)).trans hx312_1
       replace hx312_2:=(HB.out.cell (zb_ w _ hx312_2)).trans hx312_2
       replace hx312_3:=(HB.out.cell (zb_ w _ hx312_3)).trans hx312_3
       have HR312_3:=zm_ hi312_3
       have HC312_3:=zm_ hl312_3
       clear hi312_3 hl312_3
       replace p312:=eq_true p312
       replace q312:=eq_true q312
       have p313 : 0 ≤ (x4_1 : Int):=zo_
       have q313 : x4_1 < (l0_0.length : Int):=zo_
       obtain ⟨ad313,A313_3,c313_3,e313,hx313_0,hx313_1,hx313_2,hx313_3,hl313_3,hi313_3⟩:=at_T34 HR0_0.out x4_1 p313 q313
       obtain rfl : ad312 = ad313:=(by injection e313)
       replace hx313_0:=(HB.out.cell (zb_ w _ hx313_0)).trans hx313_0
       replace hx313_1:=(HB.out.cell (zb_ w _ hx313_1)).trans hx313_1
       replace hx313_2:=(HB.out.cell (zb_ w _ hx313_2)).trans hx313_2
       replace hx313_3:=(HB.out.cell (zb_ w _ hx313_3)).trans hx313_3
       have HR313_3:=zm_ hi313_3
       have HC313_3:=zm_ hl313_3
       clear hi313_3 hl313_3
       replace p313:=eq_true p313
       replace q313:=eq_true q313
       have ea_:=Option.some.inj (hx312_3.symm.trans hx313_3)
       injection ea_ with ea_ en_ ec_
       subst ea_
       subst ec_
       clear en_
       obtain ⟨Ao14,co14,eo14⟩:=Kd.R_slice HO_3.out
       subst eo14
       go_wp2_with (first|((with_reducible refine gate_callee (f:=69) rfl ?_);refine goesL_ (some 31) rfl rfl Try.func69 (by kernel_rfl) rfl #[.slice Ao14 x3_1.length co14,.string ((rd_T34 l0_0 x4_1).f2)] rfl zq_ ?_;(with_reducible refine (spec_l03Put.calls k1 _ _ x3_1 ((rd_T34 l0_0 x4_1).f2) t314 _ ?side1 ?side2 A12.out).mono ?_);(case side1 => repeat (first|exact (Kd.R_reads' HO_3.out).2.2|(with_reducible refine Kd.C_alloc ?_ _)|(with_reducible refine Kd.C_drewN ?_ _)|(with_reducible refine Kd.C_drew ?_)));(case side2 => exact (Kd.R_reads' HO_3.out).2.1);rintro e w15 ⟨v315,rfl,ho0,hb⟩;refine ⟨_,rfl,?_⟩;have n0_:=zm_ (Kd.R_elder' zt9_5 (Kd.R_base ho0) hb);have n1_:=zm_ (Kd.R_lower (Kd.R_new' ho0 (Kd.R_lt zt9_5)) (below_size zt9_3));have n2_:=zm_ (blk_below (g:=gb307) (o:=.cells #[.slice (some ad312) l0_0.length c0_0] 28 (0,0)) zt9_4 hb);have n3_:=zm_ (below_step zt9_3 hb);clear HO_3;clear BK307;clear HB;have HO_3:=n0_;have HO316:=n1_;have BK307:=n2_;have HB:=n3_;clear n0_ n1_ n2_ n3_;(try clear hb);(try clear hb2);(try clear hk);(try clear hi);(try clear ho0)))
       go_roundg k1
       case measure => have:=HK1.out;omega
       case rel => exact ⟨(t314),(wrap64 (x4_1 + 1)),zV_,H',⟨by have:=HK1.out;omega⟩,⟨by (with_reducible repeat (first|apply Kd.R_alloc|apply Kd.R_drewN|apply Kd.R_drew));exact Kd.R_mono HO316.out (fun _ hk => trivial)⟩,⟨by (with_reducible repeat first|refine zl_ ?_ _|refine zr_ ?_|refine zk_ ?_ _);exact BK307.out⟩,⟨by repeat (first|(with_reducible first|exact HB.out|apply za_|apply zn_|apply zd_|refine zs_ ?_ GE307.out)|exact HB.out)⟩⟩
      ·rw [if_neg c11] at H
       have c11b0 : (((rd_T34 l0_0 x4_1).f0) == 2) = false:=beq_eq_false_iff_ne.mpr c11
       have c11b1 : (((rd_T34 l0_0 x4_1).f0) != 2) = true:=bne_iff_ne.mpr c11
       have H':=zm_ H
       clear H
       have hcz16_0 : wr.cell? ⟨gb307,0,none⟩ = some (.slice A0_0 l0_0.length c0_0):=(zc_ BK307.out 0).trans rfl
       have hfz16_0:=zf_ BK307.out 0
       have p312 : 0 ≤ (x4_1 : Int):=zo_
       have q312 : x4_1 < (l0_0.length : Int):=zo_
       obtain ⟨ad312,A312_3,c312_3,e312,hx312_0,hx312_1,hx312_2,hx312_3,hl312_3,hi312_3⟩:=at_T34 HR0_0.out x4_1 p312 q312
       cases e312
       replace hx312_0:=(HB.out.cell (zb_ w _ hx312_0)).trans hx312_0
       replace hx312_1:=(HB.out.cell (zb_ w _ hx312_1)).trans hx312_1
       replace hx312_2:=(HB.out.cell (zb_ w _ hx312_2)).trans hx312_2
       replace hx312_3:=(HB.out.cell (zb_ w _ hx312_3)).trans hx312_3
       have HR312_3:=zm_ hi312_3
       have HC312_3:=zm_ hl312_3
       clear hi312_3 hl312_3
       replace p312:=eq_true p312
       replace q312:=eq_true q312
       go_wp2
       go_roundg k1
       case measure => have:=HK1.out;omega
       case rel => exact ⟨(x3_1),(wrap64 (x4_1 + 1)),zV_,H',⟨by have:=HK1.out;omega⟩,⟨by (with_reducible repeat (first|apply Kd.R_alloc|apply Kd.R_drewN|apply Kd.R_drew));exact HO_3.out⟩,⟨by (with_reducible repeat first|refine zl_ ?_ _|refine zr_ ?_|refine zk_ ?_ _);exact BK307.out⟩,⟨by repeat (first|(with_reducible first|exact HB.out|apply za_|apply zn_|apply zd_|refine zs_ ?_ GE307.out)|exact HB.out)⟩⟩
     ·rw [if_neg c10] at H
      exact absurd H (by simp)
    ·rw [if_neg c9] at H
     have c9b0 : decide (x4_1 < (l0_0.length : Int)) = false:=decide_eq_false c9
     clear c9
     obtain rfl:=Option.some.inj H
     have hcz17_0 : wr.cell? ⟨gb307,0,none⟩ = some (.slice A0_0 l0_0.length c0_0):=(zc_ BK307.out 0).trans rfl
     have hfz17_0:=zf_ BK307.out 0
     go_wp2
     go_ret
     exact ⟨_,by first|rfl|(simp [errW_none,errW_some] <;> rfl)|(simp [*,errW_none,errW_some] <;> rfl),by (with_reducible repeat (first|apply Kd.R_alloc|apply Kd.R_drewN|apply Kd.R_drew));exact HO_3.out,by repeat (first|(with_reducible first|exact HB.out|apply za_|apply zn_|apply zd_|refine zs_ ?_ GE307.out)|exact HB.out)⟩
 ·replace c3:=Bool.eq_false_iff.mpr c3
  subst c3
  have H1 : (some y308) = some r:=by rw [if_neg (show ¬ (false = true) by decide)] at H;exact H
  clear H
  have H:=H1
  clear H1
  obtain rfl:=Option.some.inj H
  go_enter Try.func31,Try.ntmps31
  go_wp2_with (first|((with_reducible refine gate_dst (N:=1) rfl ?_);refine box_event ?hg (N:=1) ?hd (cs:=#[.slice A0_0 l0_0.length c0_0]) (t:=28) ?hr ?_;(case hd => rfl);(case hg => rfl);(case hr => first|(go_simp;done)|(go_simp;rfl));intro gb307 hg w18 hbox hb;have n0_:=zm_ (below_step zB_ hb);have n1_:=zm_ (hbox);have n2_:=zm_ ((by rw [hg];exact (below_size zB_) : w.heap.size ≤ gb307));have n3_:=zm_ ((by rw [hg];exact (below_size zB_) : w.heap.size ≤ gb307));clear HB;have HB:=n0_;have BK307:=n1_;have GW307:=n2_;have GE307:=n3_;clear n0_ n1_ n2_ n3_;clear hb hbox hg)|((with_reducible refine gate_dst (N:=5) rfl ?_);refine Kd.R_lit Kd.string _ 9 ?hg (N:=5) ?hd (xs:=([] : List ByteArray)) (inner:=[]) (ok:=fun _ => True) (okp:=fun _ => True) ?hr ?hp (fun _ hk => hk) trivial (Below.refl _ _) (Nat.le_refl _) (by simp) ?_;(case hd => rfl);(case hg => rfl);(case hr => first|(go_simp;done)|(go_simp;rfl));(case hp => exact (Reps.none _ _));intro v309 w19 ho20 hb hg_ hnew_;clear hg_ hnew_;(first|rw [← Ny308.out] at ho20|(simp only [Int.reduceToNat] at ho20;rw [← Ny308.out] at ho20));have n0_:=zm_ (Kd.R_lower ho20 (below_size zt9_3));have n1_:=zm_ (blk_below (g:=gb307) (o:=.cells #[.slice A0_0 l0_0.length c0_0] 28 (0,0)) zt9_4 hb);have n2_:=zm_ (below_step zt9_3 hb);clear BK307;clear HB;have HO310:=n0_;have BK307:=n1_;have HB:=n2_;clear n0_ n1_ n2_;clear hb ho20;have hcz21_0 : w19.cell? ⟨gb307,0,none⟩ = some (.slice A0_0 l0_0.length c0_0):=(zc_ BK307.out 0).trans rfl;have hfz21_0:=zf_ BK307.out 0)|((with_reducible refine gate_callee (f:=15) rfl ?_);refine goesL_ (some 7) rfl rfl Try.func15 (by kernel_rfl) rfl #[.agg #[.slice A0_0 l0_0.length c0_0]] rfl zq_ ?_;(with_reducible refine (spec_ExprOk.calls k _ _ l0_0 false _ ?side1 ?side2 A2.out).mono ?_);(case side1 => repeat (first|exact (Kd.C_below HR0_0.out HB.out)|(with_reducible refine Kd.C_alloc ?_ _)|(with_reducible refine Kd.C_drewN ?_ _)|(with_reducible refine Kd.C_drew ?_)));(case side2 => exact HC0_0.out);rintro e w22 ⟨rfl,hb⟩;refine ⟨_,rfl,?_⟩;have n0_:=zm_ (Kd.R_below (by (with_reducible repeat (first|apply Kd.R_alloc|apply Kd.R_drewN|apply Kd.R_drew));exact HO310.out) hb);have n1_:=zm_ (blk_below (g:=gb307) (o:=.cells #[.slice A0_0 l0_0.length c0_0] 28 (0,0)) zt9_4 hb);have n2_:=zm_ (below_step zt9_3 hb);clear HO310;clear BK307;clear HB;have HO310:=n0_;have BK307:=n1_;have HB:=n2_;clear n0_ n1_ n2_;(try clear hb)))
  go_ret
  exact ⟨_,by first|rfl|(simp [errW_none,errW_some] <;> rfl)|(simp [*,errW_none,errW_some] <;> rfl),by (with_reducible repeat (first|apply Kd.R_alloc|apply Kd.R_drewN|apply Kd.R_drew));exact HO310.out,by repeat (first|(with_reducible first|exact HB.out|apply za_|apply zn_|apply zd_|refine zs_ ?_ GE307.out)|exact HB.out)⟩


def slices_Sort_string_string.f (l0 : List ByteArray) : Option (List ByteArray):=if l0.length < 4611686018427387904 then some (SSrt.ssort l0) else none
theorem slices_Sort_string_string.calls (P0_ : Nat → Prop) (u9000_ : Value) (l0 : List ByteArray) (r : List ByteArray) (w0 w : World) (hB : Below w0.heap.size w0 w) (ho0 : Kd.R Kd.string 9 w w0.heap.size P0_ u9000_ l0) (h : slices_Sort_string_string.f l0 = some r) :
  Calls Try.prog 70 #[u9000_] w fun e w' => e = .returned (.tuple #[]) ∧ Kd.R Kd.string 9 w' w0.heap.size (fun k_ => (P0_ k_ ∨ w.heap.size ≤ k_)) u9000_ r ∧ Below w0.heap.size w0 w' ∧ Kept w w' (fun k_ => P0_ k_):=by
 unfold slices_Sort_string_string.f at h
 by_cases hl : l0.length < 4611686018427387904
 ·rw [if_pos hl] at h
  obtain rfl:=Option.some.inj h
  exact SSrt.sort_own P0_ u9000_ l0 w0 w hB ho0 hl
 ·rw [if_neg hl] at h
  cases h


def slices_Compact_string_string.f (l0 : List ByteArray) : Option (List ByteArray):=if l0.length < 4611686018427387904 then some (SSrt.scomp l0) else none
theorem slices_Compact_string_string.calls (P0_ : Nat → Prop) (u9000_ : Value) (l0 : List ByteArray) (r : List ByteArray) (w0 w : World) (hB : Below w0.heap.size w0 w) (ho0 : Kd.R Kd.string 9 w w0.heap.size P0_ u9000_ l0) (h : slices_Compact_string_string.f l0 = some r) :
  Calls Try.prog 71 #[u9000_] w fun e w' => ∃ v0_ : Value,e = .returned (v0_) ∧ Kd.R Kd.string 9 w' w0.heap.size (fun k_ => (P0_ k_ ∨ w.heap.size ≤ k_)) v0_ r ∧ Below w0.heap.size w0 w' ∧ Kept w w' (fun k_ => P0_ k_):=by
 unfold slices_Compact_string_string.f at h
 by_cases hl : l0.length < 4611686018427387904
 ·rw [if_pos hl] at h
  obtain rfl:=Option.some.inj h
  exact SSrt.compact_own P0_ u9000_ l0 w0 w hB ho0 hl
 ·rw [if_neg hl] at h
  cases h

def impl_FreeOf.l0 : Nat → List ByteArray → List (S34) → Int → Int → Option (List ByteArray)
 |0,_,_,_,_ => none
 |k + 1,x3,x12,x13,x14 => if x14 < x13 then (if 0 ≤ x14 then (if x14 < (x12.length : Int) then (if ((rd_T34 x12 x14).f0) = 2 then (if x3.length < 8796093022208 then (impl_FreeOf.l0 k (x3 ++ [(rd_T34 x12 x14).f2]) x12 x13 (wrap64 (x14 + 1))) else (none)) else (impl_FreeOf.l0 k x3 x12 x13 (wrap64 (x14 + 1)))) else (none)) else (none)) else ((slices_Sort_string_string.f x3).bind fun t327 => ((slices_Compact_string_string.f t327).bind fun t328 => (some t328)))
def impl_FreeOf.f (k : Nat) (l0_0 : List (S34)) : Option (List ByteArray):=(some (([] : List ByteArray) : List ByteArray)).bind fun y318 => ((impl_ExprOk.f k l0_0).bind fun t321 => (if t321 = true then (impl_FreeOf.l0 k y318 l0_0 (l0_0.length : Int) 0) else (some y318)))
theorem impl_FreeOf.mono_l : ∀ k,(∀ y0 y1 y2 y3,LeO (impl_FreeOf.l0 k y0 y1 y2 y3) (impl_FreeOf.l0 (k + 1) y0 y1 y2 y3))
 |0 => fun _ _ _ _ r h => by simp [impl_FreeOf.l0] at h
 |k + 1 => by
  have ih0:=impl_FreeOf.mono_l k
  ·intro y0 y1 y2 y3
   unfold impl_FreeOf.l0
   repeat' first
   |(with_reducible exact ih0 _ _ _ _)
   |(with_reducible exact impl_ExprOk.mono _ _)
   |(with_reducible exact LeO.refl _)
   |(with_reducible exact LeO.none _)
   |(with_reducible refine LeO.ite ?_ ?_)
   |(with_reducible refine LeO.bind ?_ (fun _ => ?_))
theorem impl_FreeOf.mono : ∀ a0 k,LeO (impl_FreeOf.f k a0) (impl_FreeOf.f (k + 1) a0):=by
 intro a0 k
 have ih0:=impl_FreeOf.mono_l k
 unfold impl_FreeOf.f
 repeat' first
   |(with_reducible exact ih0 _ _ _ _)
   |(with_reducible exact impl_ExprOk.mono _ _)
   |(with_reducible exact LeO.refl _)
   |(with_reducible exact LeO.none _)
   |(with_reducible refine LeO.ite ?_ ?_)
   |(with_reducible refine LeO.bind ?_ (fun _ => ?_))
set_option maxHeartbeats 8000000 in
set_option maxRecDepth 100000 in
theorem impl_FreeOf.calls (k : Nat) (A0_0 : Option Addr) (c0_0 : Nat) (l0_0 : List (S34)) (r : List ByteArray) (w : World) (hr0_0 : Kd.C k34 w A0_0 l0_0.length l0_0) (hc0_0 : l0_0.length ≤ c0_0) (h : impl_FreeOf.f k l0_0 = some r) :
  Calls Try.prog 32 #[.agg #[.slice A0_0 l0_0.length c0_0]] w fun e w' => ∃ v0_ : Value,e = .returned (v0_) ∧ Kd.R Kd.string 9 w' w.heap.size (fun _ => True) v0_ r ∧ Below w.heap.size w w':=by
 have hu28:=Try.underlying28
 have hu34:=Try.underlying34
 have HR0_0:=zm_ hr0_0
 have HC0_0:=zm_ hc0_0
 clear hr0_0 hc0_0
 have HB:=zm_ (Below.refl w.heap.size w)
 have H : ((some (([] : List ByteArray) : List ByteArray)).bind fun y318 => ((impl_ExprOk.f k l0_0).bind fun t321 => (if t321 = true then (impl_FreeOf.l0 k y318 l0_0 (l0_0.length : Int) 0) else (some y318)))) = some r:=h
 clear h
 obtain ⟨y318,hy318⟩ : ∃ y_ : List ByteArray,y_ = (([] : List ByteArray)):=⟨_,rfl⟩
 replace H : ((impl_ExprOk.f k l0_0).bind fun t321 => (if t321 = true then (impl_FreeOf.l0 k y318 l0_0 (l0_0.length : Int) 0) else (some y318))) = some r:=by first|(rw [hy318];with_reducible exact H)|(have H2_:=(Option.bind_some _ _).symm.trans H;rw [hy318];with_reducible exact H2_)|(have H2_:=(Option.bind_some _ _).symm.trans H;with_reducible exact H2_)|with_reducible exact H|(rw [hy318];exact H)|exact H
 have Ny318:=zm_ hy318
 clear hy318
 replace H:=Option.bind_eq_some_iff.mp H
 obtain ⟨t321,A20,H⟩:=H
 replace H : (if t321 = true then (impl_FreeOf.l0 k y318 l0_0 (l0_0.length : Int) 0) else (some y318)) = some r:=H
 have A2:=zm_ A20
 clear A20
 by_cases c3 : t321 = true
 ·subst c3
  have H1 : (impl_FreeOf.l0 k y318 l0_0 (l0_0.length : Int) 0) = some r:=by rw [if_pos rfl] at H;exact H
  clear H
  have H:=H1
  clear H1
  have H':=zm_ H
  clear H
  go_enter Try.func32,Try.ntmps32
  go_wp2_with (first|((with_reducible refine gate_dst (N:=1) rfl ?_);refine box_event ?hg (N:=1) ?hd (cs:=#[.slice A0_0 l0_0.length c0_0]) (t:=28) ?hr ?_;(case hd => rfl);(case hg => rfl);(case hr => first|(go_simp;done)|(go_simp;rfl));intro gb317 hg w4 hbox hb;have n0_:=zm_ (below_step zB_ hb);have n1_:=zm_ (hbox);have n2_:=zm_ ((by rw [hg];exact (below_size zB_) : w.heap.size ≤ gb317));have n3_:=zm_ ((by rw [hg];exact (below_size zB_) : w.heap.size ≤ gb317));clear HB;have HB:=n0_;have BK317:=n1_;have GW317:=n2_;have GE317:=n3_;clear n0_ n1_ n2_ n3_;clear hb hbox hg)|((with_reducible refine gate_dst (N:=6) rfl ?_);refine Kd.R_lit Kd.string _ 9 ?hg (N:=6) ?hd (xs:=([] : List ByteArray)) (inner:=[]) (ok:=fun _ => True) (okp:=fun _ => True) ?hr ?hp (fun _ hk => hk) trivial (Below.refl _ _) (Nat.le_refl _) (by simp) ?_;(case hd => rfl);(case hg => rfl);(case hr => first|(go_simp;done)|(go_simp;rfl));(case hp => exact (Reps.none _ _));intro v319 w5 ho6 hb hg_ hnew_;clear hg_ hnew_;(first|rw [← Ny318.out] at ho6|(simp only [Int.reduceToNat] at ho6;rw [← Ny318.out] at ho6));have n0_:=zm_ (Kd.R_lower ho6 (below_size zt9_1));have n1_:=zm_ (blk_below (g:=gb317) (o:=.cells #[.slice A0_0 l0_0.length c0_0] 28 (0,0)) zt9_2 hb);have n2_:=zm_ (below_step zt9_1 hb);clear BK317;clear HB;have HO320:=n0_;have BK317:=n1_;have HB:=n2_;clear n0_ n1_ n2_;clear hb ho6;have hcz7_0 : w5.cell? ⟨gb317,0,none⟩ = some (.slice A0_0 l0_0.length c0_0):=(zc_ BK317.out 0).trans rfl;have hfz7_0:=zf_ BK317.out 0)|((with_reducible refine gate_callee (f:=14) rfl ?_);refine goesL_ (some 8) rfl rfl Try.func14 (by kernel_rfl) rfl #[.agg #[.slice A0_0 l0_0.length c0_0]] rfl zq_ ?_;(with_reducible refine (impl_ExprOk.calls k _ _ l0_0 true _ ?side1 ?side2 A2.out).mono ?_);(case side1 => repeat (first|exact (Kd.C_below HR0_0.out HB.out)|(with_reducible refine Kd.C_alloc ?_ _)|(with_reducible refine Kd.C_drewN ?_ _)|(with_reducible refine Kd.C_drew ?_)));(case side2 => exact HC0_0.out);rintro e w8 ⟨rfl,hb⟩;refine ⟨_,rfl,?_⟩;have n0_:=zm_ (Kd.R_below (by (with_reducible repeat (first|apply Kd.R_alloc|apply Kd.R_drewN|apply Kd.R_drew));exact HO320.out) hb);have n1_:=zm_ (blk_below (g:=gb317) (o:=.cells #[.slice A0_0 l0_0.length c0_0] 28 (0,0)) zt9_2 hb);have n2_:=zm_ (below_step zt9_1 hb);clear HO320;clear BK317;clear HB;have HO320:=n0_;have BK317:=n1_;have HB:=n2_;clear n0_ n1_ n2_;(try clear hb);have hcz9_0 : w8.cell? ⟨gb317,0,none⟩ = some (.slice A0_0 l0_0.length c0_0):=(zc_ BK317.out 0).trans rfl;have hfz9_0:=zf_ BK317.out 0))
  go_loopg [3,14] k (fun kq v3 v14 w' => ∃ (x3_1 : List ByteArray) (x14_1 : Int),v14 = .int .i64 x14_1 ∧ Aside0 (impl_FreeOf.l0 kq x3_1 l0_0 (l0_0.length : Int) x14_1 = some r) ∧ Aside0 (kq ≤ k) ∧ Aside0 (Kd.R Kd.string 9 w' w.heap.size (fun _ => True) v3 x3_1) ∧ Aside0 (w'.heap[gb317]? = some (.cells #[(.slice A0_0 l0_0.length c0_0)] 28 (0,0))) ∧ Aside0 (Below w.heap.size w w'))
  case atStart => exact ⟨(y318),(0),zV_,H',⟨Nat.le_refl _⟩,⟨by (with_reducible repeat (first|apply Kd.R_alloc|apply Kd.R_drewN|apply Kd.R_drew));exact HO320.out⟩,⟨by (with_reducible repeat first|refine zl_ ?_ _|refine zr_ ?_|refine zk_ ?_ _);exact BK317.out⟩,⟨by repeat (first|(with_reducible first|exact HB.out|apply za_|apply zn_|apply zd_|refine zs_ ?_ GE317.out)|exact HB.out)⟩⟩
  case round =>
   clear H'
   try clear c1
   try clear p2
   try clear c3
   try clear hcz7_0
   try clear hcz9_0
   try clear hfz7_0
   try clear hfz9_0
   obtain ⟨x3_1,x14_1,rfl,HA,HK1,HO_3,BK317,HB⟩:=hrel
   cases gk with
   |zero => exact absurd HA.out (by simp [impl_FreeOf.l0])
   |succ k1 =>
    have H:=HA.out
    clear HA
    simp only [impl_FreeOf.l0] at H
    by_cases c10 : x14_1 < (l0_0.length : Int)
    ·rw [if_pos c10] at H
     have c10b0 : decide (x14_1 < (l0_0.length : Int)) = true:=decide_eq_true c10
     clear c10
     by_cases c11 : 0 ≤ x14_1
     ·rw [if_pos c11] at H
      have c11b0 : decide (0 ≤ x14_1) = true:=decide_eq_true c11
      clear c11
      by_cases c12 : x14_1 < (l0_0.length : Int)
      ·rw [if_pos c12] at H
       have c12b0 : decide (x14_1 < (l0_0.length : Int)) = true:=decide_eq_true c12
       clear c12
       by_cases c13 : ((rd_T34 l0_0 x14_1).f0) = 2
       ·rw [if_pos c13] at H
        have c13b0 : (((rd_T34 l0_0 x14_1).f0) == 2) = true:=beq_iff_eq.mpr c13
        have c13b1 : (((rd_T34 l0_0 x14_1).f0) != 2) = false:=bne_eq_false_iff_eq.mpr c13
        clear c13
        by_cases c14 : x3_1.length < 8796093022208
        ·rw [if_pos c14] at H
         have LMc14:=zm_ c14
         clear c14
         obtain ⟨y324,hy324⟩ : ∃ y_ : List ByteArray,y_ = (x3_1 ++ [(rd_T34 l0_0 x14_1).f2]):=⟨_,rfl⟩
         replace H : (impl_FreeOf.l0 k1 y324 l0_0 (l0_0.length : Int) (wrap64 (x14_1 + 1))) = some r:=by first|(rw [hy324];with_reducible exact H)|(have H2_:=(Option.bind_some _ _).symm.trans H;rw [hy324];with_reducible exact H2_)|(have H2_:=(Option.bind_some _ _).symm.trans H;with_reducible exact H2_)|with_reducible exact H|(rw [hy324];exact H)|exact H
         have Ny324:=zm_ hy324
         clear hy324
         have H':=zm_ H
         clear H
         have p322 : 0 ≤ (x14_1 : Int):=zo_
         have q322 : x14_1 < (l0_0.length : Int):=zo_
         obtain ⟨ad322,A322_3,c322_3,e322,hx322_0,hx322_1,hx322_2,hx322_3,hl322_3,hi322_3⟩:=at_T34 HR0_0.out x14_1 p322 q322
         cases e322
         replace hx322_0:=(HB.out.cell (zb_ w _ hx322_0)).trans hx322_0
         replace hx322_1:=(HB.out.cell (zb_ w _ hx322_1)).trans hx322_1
         replace hx322_2:=(HB.out.cell (zb_ w _ hx322_2)).trans hx322_2
         replace hx322_3:=(HB.out.cell (zb_ w _ hx322_3)).trans hx322_3
         have HR322_3:=zm_ hi322_3
         have HC322_3:=zm_ hl322_3
         clear hi322_3 hl322_3
         replace p322:=eq_true p322
         replace q322:=eq_true q322
         go_wp2_with (first|((with_reducible refine gate_dst (N:=5) rfl ?_);refine box_event ?hg (N:=5) ?hd (cs:=#[.int .i64 0,.int .i64 0,.string (⟨#[]⟩ : ByteArray),.slice none 0 0]) (t:=34) ?hr ?_;(case hd => rfl);(case hg => rfl);(case hr => first|(go_simp;done)|(go_simp;rfl));intro gb323 hg w15 hbox hb;have n0_:=zm_ (Kd.R_below zt9_5 hb);have n1_:=zm_ (blk_below (g:=gb317) (o:=.cells #[.slice (some ad322) l0_0.length c0_0] 28 (0,0)) zt9_2 hb);have n2_:=zm_ (below_step zt9_1 hb);have n3_:=zm_ (hbox);have n4_:=zm_ ((by rw [hg];exact (below_size zt9_1) : w.heap.size ≤ gb323));have n5_:=zm_ ((by rw [hg];exact (below_size zt9_1) : w.heap.size ≤ gb323));have n6_:=zm_ ((by rw [hg];exact Nat.ne_of_lt (blk_lt (g:=gb317) (o:=.cells #[.slice (some ad322) l0_0.length c0_0] 28 (0,0)) zt9_2) : gb317 ≠ gb323));have n7_:=zm_ ((by rw [hg];exact Nat.ne_of_gt (blk_lt (g:=gb317) (o:=.cells #[.slice (some ad322) l0_0.length c0_0] 28 (0,0)) zt9_2) : gb323 ≠ gb317));clear HO_3;clear BK317;clear HB;have HO_3:=n0_;have BK317:=n1_;have HB:=n2_;have BK323:=n3_;have GW323:=n4_;have GE323:=n5_;have NB317_323:=n6_;have NB323_317:=n7_;clear n0_ n1_ n2_ n3_ n4_ n5_ n6_ n7_;clear hb hbox hg;have hnb16:=NB323_317.out;have hnc16:=NB317_323.out;have hcz17_0 : w15.cell? ⟨gb323,0,none⟩ = some (.int .i64 0):=(zc_ BK323.out 0).trans rfl;have hcz17_1 : w15.cell? ⟨gb323,1,none⟩ = some (.int .i64 0):=(zc_ BK323.out 1).trans rfl;have hcz17_2 : w15.cell? ⟨gb323,2,none⟩ = some (.string (⟨#[]⟩ : ByteArray)):=(zc_ BK323.out 2).trans rfl;have hcz17_3 : w15.cell? ⟨gb323,3,none⟩ = some (.slice none 0 0):=(zc_ BK323.out 3).trans rfl;have hfz17_0:=zf_ BK323.out 0;have hfz17_1:=zf_ BK323.out 1;have hfz17_2:=zf_ BK323.out 2;have hfz17_3:=zf_ BK323.out 3)|((with_reducible refine gate_builtin (b:=.append) (xs:=#[.tmp 21,.tmp 24]) rfl ?_);at_builtin;refine Kd.R_append Kd.string (w0:=w) w.heap.size rfl (.tmp 21) (.tmp 24) 61 9 (.string ⟨#[]⟩) 16 rfl Try.underlying61 info9 rfl (by decide) (by omega) u3 x3_1 ((rd_T34 l0_0 x14_1).f2) [.string ((rd_T34 l0_0 x14_1).f2)] (fun _ => True) (fun _ => False) rfl (by first|(go_simp;done)|(go_simp;rfl)) ?aP (fun _ hk => hk.elim) ?aF ?aO ?aB ?aS ?aL ?_;(case aP => exact rfl);(case aB => exact (by repeat (first|(with_reducible first|exact HB.out|apply za_|apply zn_|apply zd_|refine zs_ ?_ GE317.out|refine zs_ ?_ GE323.out)|exact HB.out)));(case aF => exact (fun _ _ => trivial));(case aO => exact (by (with_reducible repeat (first|apply Kd.R_alloc|apply Kd.R_drewN|apply Kd.R_drew));exact Kd.R_mono (Kd.R_far (p:=⟨gb323,3,none⟩) (Kd.R_far (p:=⟨gb323,2,none⟩) (Kd.R_far (p:=⟨gb323,1,none⟩) (Kd.R_far (p:=⟨gb323,0,none⟩) (Kd.R_types HO_3.out BK323.out (by decide)) (fun _ hk => hk.2) (.int .i64 ((rd_T34 l0_0 x14_1).f0))) (fun _ hk => hk.2) (.int .i64 ((rd_T34 l0_0 x14_1).f1))) (fun _ hk => hk.2) (.string ((rd_T34 l0_0 x14_1).f2))) (fun _ hk => hk.2) (.slice A322_3 ((rd_T34 l0_0 x14_1).f3).length c322_3)) (fun _ hk => trivial)));(case aS => exact (below_size (by repeat (first|(with_reducible first|exact HB.out|apply za_|apply zn_|apply zd_|refine zs_ ?_ GE317.out|refine zs_ ?_ GE323.out)|exact HB.out))));(case aL => have:=LMc14.out;omega);intro v325 w18 ho hb hg hat;rw [← Ny324.out] at ho;have n0_:=zm_ (blk_grown (g:=gb317) (o:=.cells #[.slice (some ad322) l0_0.length c0_0] 28 (0,0)) (by (with_reducible repeat first|refine zl_ ?_ _|refine zr_ ?_|refine zk_ ?_ _);refine blk_far ?_ NB317_323.out _;(with_reducible repeat first|refine zl_ ?_ _|refine zr_ ?_|refine zk_ ?_ _);refine blk_far ?_ NB317_323.out _;(with_reducible repeat first|refine zl_ ?_ _|refine zr_ ?_|refine zk_ ?_ _);refine blk_far ?_ NB317_323.out _;(with_reducible repeat first|refine zl_ ?_ _|refine zr_ ?_|refine zk_ ?_ _);refine blk_far ?_ NB317_323.out _;(with_reducible repeat first|refine zl_ ?_ _|refine zr_ ?_|refine zk_ ?_ _);exact BK317.out) hg (Kd.R_ne HO_3.out BK317.out (by decide)));have n1_:=zm_ (blk_grown (g:=gb323) (o:=.cells #[.int .i64 ((rd_T34 l0_0 x14_1).f0),.int .i64 ((rd_T34 l0_0 x14_1).f1),.string ((rd_T34 l0_0 x14_1).f2),.slice A322_3 ((rd_T34 l0_0 x14_1).f3).length c322_3] 34 (0,0)) (by (with_reducible repeat first|refine zl_ ?_ _|refine zr_ ?_|refine zk_ ?_ _);refine blk_put (cs:=#[.int .i64 ((rd_T34 l0_0 x14_1).f0),.int .i64 ((rd_T34 l0_0 x14_1).f1),.string ((rd_T34 l0_0 x14_1).f2),.slice none 0 0]) ?_ 3 _ rfl;(with_reducible repeat first|refine zl_ ?_ _|refine zr_ ?_|refine zk_ ?_ _);refine blk_put (cs:=#[.int .i64 ((rd_T34 l0_0 x14_1).f0),.int .i64 ((rd_T34 l0_0 x14_1).f1),.string (⟨#[]⟩ : ByteArray),.slice none 0 0]) ?_ 2 _ rfl;(with_reducible repeat first|refine zl_ ?_ _|refine zr_ ?_|refine zk_ ?_ _);refine blk_put (cs:=#[.int .i64 ((rd_T34 l0_0 x14_1).f0),.int .i64 0,.string (⟨#[]⟩ : ByteArray),.slice none 0 0]) ?_ 1 _ rfl;(with_reducible repeat first|refine zl_ ?_ _|refine zr_ ?_|refine zk_ ?_ _);refine blk_put (cs:=#[.int .i64 0,.int .i64 0,.string (⟨#[]⟩ : ByteArray),.slice none 0 0]) ?_ 0 _ rfl;(with_reducible repeat first|refine zl_ ?_ _|refine zr_ ?_|refine zk_ ?_ _);exact BK323.out) hg (Kd.R_ne HO_3.out BK323.out (by decide)));have n2_:=zm_ (hb);have n3_:=zm_ (ho);clear BK317;clear BK323;clear HB;clear HO_3;have BK317:=n0_;have BK323:=n1_;have HB:=n2_;have HO326:=n3_;clear n0_ n1_ n2_ n3_;clear ho hb hg hat))
         go_roundg k1
         case measure => have:=HK1.out;omega
         case rel => exact ⟨(y324),(wrap64 (x14_1 + 1)),zV_,H',⟨by have:=HK1.out;omega⟩,⟨by (with_reducible repeat (first|apply Kd.R_alloc|apply Kd.R_drewN|apply Kd.R_drew));exact HO326.out⟩,⟨by (with_reducible repeat first|refine zl_ ?_ _|refine zr_ ?_|refine zk_ ?_ _);exact BK317.out⟩,⟨by repeat (first|(with_reducible first|exact HB.out|apply za_|apply zn_|apply zd_|refine zs_ ?_ GE317.out|refine zs_ ?_ GE323.out)|exact HB.out)⟩⟩
        ·rw [if_neg c14] at H
         exact absurd H (by simp)
       ·rw [if_neg c13] at H
        have c13b0 : (((rd_T34 l0_0 x14_1).f0) == 2) = false:=beq_eq_false_iff_ne.mpr c13
        have c13b1 : (((rd_T34 l0_0 x14_1).f0) != 2) = true:=bne_iff_ne.mpr c13
        have H':=zm_ H
        clear H
        have p322 : 0 ≤ (x14_1 : Int):=zo_
        have q322 : x14_1 < (l0_0.length : Int):=zo_
        obtain ⟨ad322,A322_3,c322_3,e322,hx322_0,hx322_1,hx322_2,hx322_3,hl322_3,hi322_3⟩:=at_T34 HR0_0.out x14_1 p322 q322
        cases e322
        replace hx322_0:=(HB.out.cell (zb_ w _ hx322_0)).trans hx322_0
        replace hx322_1:=(HB.out.cell (zb_ w _ hx322_1)).trans hx322_1
        replace hx322_2:=(HB.out.cell (zb_ w _ hx322_2)).trans hx322_2
        replace hx322_3:=(HB.out.cell (zb_ w _ hx322_3)).trans hx322_3
        have HR322_3:=zm_ hi322_3
        have HC322_3:=zm_ hl322_3
        clear hi322_3 hl322_3
        replace p322:=eq_true p322
        replace q322:=eq_true q322
        go_wp2_with (first|((with_reducible refine gate_dst (N:=5) rfl ?_);refine box_event ?hg (N:=5) ?hd (cs:=#[.int .i64 0,.int .i64 0,.string (⟨#[]⟩ : ByteArray),.slice none 0 0]) (t:=34) ?hr ?_;(case hd => rfl);(case hg => rfl);(case hr => first|(go_simp;done)|(go_simp;rfl));intro gb323 hg w19 hbox hb;have n0_:=zm_ (Kd.R_below zt9_5 hb);have n1_:=zm_ (blk_below (g:=gb317) (o:=.cells #[.slice (some ad322) l0_0.length c0_0] 28 (0,0)) zt9_2 hb);have n2_:=zm_ (below_step zt9_1 hb);have n3_:=zm_ (hbox);have n4_:=zm_ ((by rw [hg];exact (below_size zt9_1) : w.heap.size ≤ gb323));have n5_:=zm_ ((by rw [hg];exact (below_size zt9_1) : w.heap.size ≤ gb323));have n6_:=zm_ ((by rw [hg];exact Nat.ne_of_lt (blk_lt (g:=gb317) (o:=.cells #[.slice (some ad322) l0_0.length c0_0] 28 (0,0)) zt9_2) : gb317 ≠ gb323));have n7_:=zm_ ((by rw [hg];exact Nat.ne_of_gt (blk_lt (g:=gb317) (o:=.cells #[.slice (some ad322) l0_0.length c0_0] 28 (0,0)) zt9_2) : gb323 ≠ gb317));clear HO_3;clear BK317;clear HB;have HO_3:=n0_;have BK317:=n1_;have HB:=n2_;have BK323:=n3_;have GW323:=n4_;have GE323:=n5_;have NB317_323:=n6_;have NB323_317:=n7_;clear n0_ n1_ n2_ n3_ n4_ n5_ n6_ n7_;clear hb hbox hg;have hnb20:=NB323_317.out;have hnc20:=NB317_323.out;have hcz21_0 : w19.cell? ⟨gb323,0,none⟩ = some (.int .i64 0):=(zc_ BK323.out 0).trans rfl;have hcz21_1 : w19.cell? ⟨gb323,1,none⟩ = some (.int .i64 0):=(zc_ BK323.out 1).trans rfl;have hcz21_2 : w19.cell? ⟨gb323,2,none⟩ = some (.string (⟨#[]⟩ : ByteArray)):=(zc_ BK323.out 2).trans rfl;have hcz21_3 : w19.cell? ⟨gb323,3,none⟩ = some (.slice none 0 0):=(zc_ BK323.out 3).trans rfl;have hfz21_0:=zf_ BK323.out 0;have hfz21_1:=zf_ BK323.out 1;have hfz21_2:=zf_ BK323.out 2;have hfz21_3:=zf_ BK323.out 3))
        go_roundg k1
        case measure => have:=HK1.out;omega
        case rel => exact ⟨(x3_1),(wrap64 (x14_1 + 1)),zV_,H',⟨by have:=HK1.out;omega⟩,⟨by (with_reducible repeat (first|apply Kd.R_alloc|apply Kd.R_drewN|apply Kd.R_drew));exact Kd.R_mono (Kd.R_far (p:=⟨gb323,3,none⟩) (Kd.R_far (p:=⟨gb323,2,none⟩) (Kd.R_far (p:=⟨gb323,1,none⟩) (Kd.R_far (p:=⟨gb323,0,none⟩) (Kd.R_types HO_3.out BK323.out (by decide)) (fun _ hk => hk.2) (.int .i64 ((rd_T34 l0_0 x14_1).f0))) (fun _ hk => hk.2) (.int .i64 ((rd_T34 l0_0 x14_1).f1))) (fun _ hk => hk.2) (.string ((rd_T34 l0_0 x14_1).f2))) (fun _ hk => hk.2) (.slice A322_3 ((rd_T34 l0_0 x14_1).f3).length c322_3)) (fun _ hk => trivial)⟩,⟨by (with_reducible repeat first|refine zl_ ?_ _|refine zr_ ?_|refine zk_ ?_ _);refine blk_far ?_ NB317_323.out _;(with_reducible repeat first|refine zl_ ?_ _|refine zr_ ?_|refine zk_ ?_ _);refine blk_far ?_ NB317_323.out _;(with_reducible repeat first|refine zl_ ?_ _|refine zr_ ?_|refine zk_ ?_ _);refine blk_far ?_ NB317_323.out _;(with_reducible repeat first|refine zl_ ?_ _|refine zr_ ?_|refine zk_ ?_ _);refine blk_far ?_ NB317_323.out _;(with_reducible repeat first|refine zl_ ?_ _|refine zr_ ?_|refine zk_ ?_ _);exact BK317.out⟩,⟨by repeat (first|(with_reducible first|exact HB.out|apply za_|apply zn_|apply zd_|refine zs_ ?_ GE317.out|refine zs_ ?_ GE323.out)|exact HB.out)⟩⟩
      ·rw [if_neg c12] at H
       exact absurd H (by simp)
     ·rw [if_neg c11] at H
      exact absurd H (by simp)
    ·rw [if_neg c10] at H
     have c10b0 : decide (x14_1 < (l0_0.length : Int)) = false:=decide_eq_false c10
     clear c10
     replace H:=Option.bind_eq_some_iff.mp H
     obtain ⟨t327,A220,H⟩:=H
     replace H : ((slices_Compact_string_string.f t327).bind fun t328 => (some t328)) = some r:=H
     have A22:=zm_ A220
     clear A220
     replace H:=Option.bind_eq_some_iff.mp H
     obtain ⟨t328,A230,H⟩:=H
     replace H : (some t328) = some r:=H
     have A23:=zm_ A230
     clear A230
     obtain rfl:=Option.some.inj H
     obtain ⟨Ao24,co24,eo24⟩:=Kd.R_slice HO_3.out
     subst eo24
     go_wp2_with (first|((with_reducible refine gate_callee (f:=70) rfl ?_);refine goesL_ (some 28) rfl rfl Try.func70 (by kernel_rfl) rfl #[.slice Ao24 x3_1.length co24] rfl zq_ ?_;(with_reducible refine (slices_Sort_string_string.calls (fun k_ => some k_ = (.slice Ao24 x3_1.length co24 : Value).ownBlock) (.slice Ao24 x3_1.length co24) x3_1 t327 w _ ?side1 ?side2 A22.out).mono ?_);(case side1 => repeat (first|(with_reducible first|exact HB.out|apply za_|apply zn_|apply zd_|refine zs_ ?_ GE317.out)|exact HB.out));(case side2 => exact Kd.R_tight rfl HO_3.out);rintro e w25 ⟨rfl,hy0,hb,hkp⟩;refine ⟨_,rfl,?_⟩;have n0_:=zm_ (Kd.R_reok rfl hy0 (fun k_ e_ => HO_3.out.1 k_ e_));have n1_:=zm_ (blk_kept zt9_2 hkp (fun hs_ => (fun e_ => (Kd.R_ne HO_3.out BK317.out (by decide)) e_) hs_));have n2_:=zm_ (hb);clear HO_3;clear BK317;clear HB;have HO_3:=n0_;have BK317:=n1_;have HB:=n2_;clear n0_ n1_ n2_;(try clear hb);(try clear hkp);(try clear hy0))|((with_reducible refine gate_callee (f:=71) rfl ?_);refine goesL_ (some 30) rfl rfl Try.func71 (by kernel_rfl) rfl #[.slice Ao24 x3_1.length co24] rfl zq_ ?_;(with_reducible refine (slices_Compact_string_string.calls (fun k_ => some k_ = (.slice Ao24 x3_1.length co24 : Value).ownBlock) (.slice Ao24 x3_1.length co24) t327 t328 w _ ?side1 ?side2 A23.out).mono ?_);(case side1 => repeat (first|(with_reducible first|exact HB.out|apply za_|apply zn_|apply zd_|refine zs_ ?_ GE317.out)|exact HB.out));(case side2 => exact Kd.R_tight rfl HO_3.out);rintro e w26 ⟨v329,rfl,ho0,hb,hkp⟩;refine ⟨_,rfl,?_⟩;have n0_:=zm_ (blk_kept zt9_2 hkp (fun hs_ => (fun e_ => (Kd.R_ne HO_3.out BK317.out (by decide)) e_) hs_));have n1_:=zm_ (Kd.R_mono (ok':=fun k_ => True) ho0 (fun k_ hk_ => trivial));have n2_:=zm_ (hb);clear BK317;clear HB;clear HO_3;have BK317:=n0_;have HO330:=n1_;have HB:=n2_;clear n0_ n1_ n2_;(try clear hb);(try clear hkp);(try clear ho0)))
     go_ret
     exact ⟨_,by first|rfl|(simp [errW_none,errW_some] <;> rfl)|(simp [*,errW_none,errW_some] <;> rfl),by (with_reducible repeat (first|apply Kd.R_alloc|apply Kd.R_drewN|apply Kd.R_drew));exact HO330.out,by repeat (first|(with_reducible first|exact HB.out|apply za_|apply zn_|apply zd_|refine zs_ ?_ GE317.out)|exact HB.out)⟩
 ·replace c3:=Bool.eq_false_iff.mpr c3
  subst c3
  have H1 : (some y318) = some r:=by rw [if_neg (show ¬ (false = true) by decide)] at H;exact H
  clear H
  have H:=H1
  clear H1
  obtain rfl:=Option.some.inj H
  go_enter Try.func32,Try.ntmps32
  go_wp2_with (first|((with_reducible refine gate_dst (N:=1) rfl ?_);refine box_event ?hg (N:=1) ?hd (cs:=#[.slice A0_0 l0_0.length c0_0]) (t:=28) ?hr ?_;(case hd => rfl);(case hg => rfl);(case hr => first|(go_simp;done)|(go_simp;rfl));intro gb317 hg w27 hbox hb;have n0_:=zm_ (below_step zB_ hb);have n1_:=zm_ (hbox);have n2_:=zm_ ((by rw [hg];exact (below_size zB_) : w.heap.size ≤ gb317));have n3_:=zm_ ((by rw [hg];exact (below_size zB_) : w.heap.size ≤ gb317));clear HB;have HB:=n0_;have BK317:=n1_;have GW317:=n2_;have GE317:=n3_;clear n0_ n1_ n2_ n3_;clear hb hbox hg)|((with_reducible refine gate_dst (N:=6) rfl ?_);refine Kd.R_lit Kd.string _ 9 ?hg (N:=6) ?hd (xs:=([] : List ByteArray)) (inner:=[]) (ok:=fun _ => True) (okp:=fun _ => True) ?hr ?hp (fun _ hk => hk) trivial (Below.refl _ _) (Nat.le_refl _) (by simp) ?_;(case hd => rfl);(case hg => rfl);(case hr => first|(go_simp;done)|(go_simp;rfl));(case hp => exact (Reps.none _ _));intro v319 w28 ho29 hb hg_ hnew_;clear hg_ hnew_;(first|rw [← Ny318.out] at ho29|(simp only [Int.reduceToNat] at ho29;rw [← Ny318.out] at ho29));have n0_:=zm_ (Kd.R_lower ho29 (below_size zt9_1));have n1_:=zm_ (blk_below (g:=gb317) (o:=.cells #[.slice A0_0 l0_0.length c0_0] 28 (0,0)) zt9_2 hb);have n2_:=zm_ (below_step zt9_1 hb);clear BK317;clear HB;have HO320:=n0_;have BK317:=n1_;have HB:=n2_;clear n0_ n1_ n2_;clear hb ho29;have hcz30_0 : w28.cell? ⟨gb317,0,none⟩ = some (.slice A0_0 l0_0.length c0_0):=(zc_ BK317.out 0).trans rfl;have hfz30_0:=zf_ BK317.out 0)|((with_reducible refine gate_callee (f:=14) rfl ?_);refine goesL_ (some 8) rfl rfl Try.func14 (by kernel_rfl) rfl #[.agg #[.slice A0_0 l0_0.length c0_0]] rfl zq_ ?_;(with_reducible refine (impl_ExprOk.calls k _ _ l0_0 false _ ?side1 ?side2 A2.out).mono ?_);(case side1 => repeat (first|exact (Kd.C_below HR0_0.out HB.out)|(with_reducible refine Kd.C_alloc ?_ _)|(with_reducible refine Kd.C_drewN ?_ _)|(with_reducible refine Kd.C_drew ?_)));(case side2 => exact HC0_0.out);rintro e w31 ⟨rfl,hb⟩;refine ⟨_,rfl,?_⟩;have n0_:=zm_ (Kd.R_below (by (with_reducible repeat (first|apply Kd.R_alloc|apply Kd.R_drewN|apply Kd.R_drew));exact HO320.out) hb);have n1_:=zm_ (blk_below (g:=gb317) (o:=.cells #[.slice A0_0 l0_0.length c0_0] 28 (0,0)) zt9_2 hb);have n2_:=zm_ (below_step zt9_1 hb);clear HO320;clear BK317;clear HB;have HO320:=n0_;have BK317:=n1_;have HB:=n2_;clear n0_ n1_ n2_;(try clear hb)))
  go_ret
  exact ⟨_,by first|rfl|(simp [errW_none,errW_some] <;> rfl)|(simp [*,errW_none,errW_some] <;> rfl),by (with_reducible repeat (first|apply Kd.R_alloc|apply Kd.R_drewN|apply Kd.R_drew));exact HO320.out,by repeat (first|(with_reducible first|exact HB.out|apply za_|apply zn_|apply zd_|refine zs_ ?_ GE317.out)|exact HB.out)⟩

def spec_l03In.l0 : Nat → List ByteArray → ByteArray → Int → Option (Bool)
 |0,_,_,_ => none
 |k + 1,x0,x1,x5 => if x5 < (x0.length : Int) then (if 0 ≤ x5 then (if (rdOf ByteArray.empty x0 x5).toList = x1.toList then (some true) else (spec_l03In.l0 k x0 x1 (wrap64 (x5 + 1)))) else (none)) else (some false)
def spec_l03In.f (k : Nat) (l0 : List ByteArray) (a1 : ByteArray) : Option (Bool):=spec_l03In.l0 k l0 a1 0
theorem spec_l03In.mono_l : ∀ k,(∀ y0 y1 y2,LeO (spec_l03In.l0 k y0 y1 y2) (spec_l03In.l0 (k + 1) y0 y1 y2))
 |0 => fun _ _ _ r h => by simp [spec_l03In.l0] at h
 |k + 1 => by
  have ih0:=spec_l03In.mono_l k
  ·intro y0 y1 y2
   unfold spec_l03In.l0
   repeat' first
   |(with_reducible exact ih0 _ _ _)
   |(with_reducible exact LeO.refl _)
   |(with_reducible exact LeO.none _)
   |(with_reducible refine LeO.ite ?_ ?_)
   |(with_reducible refine LeO.bind ?_ (fun _ => ?_))
theorem spec_l03In.mono : ∀ a0 a1 k,LeO (spec_l03In.f k a0 a1) (spec_l03In.f (k + 1) a0 a1):=by
 intro a0 a1 k
 have ih0:=spec_l03In.mono_l k
 unfold spec_l03In.f
 repeat' first
   |(with_reducible exact ih0 _ _ _)
   |(with_reducible exact LeO.refl _)
   |(with_reducible exact LeO.none _)
   |(with_reducible refine LeO.ite ?_ ?_)
   |(with_reducible refine LeO.bind ?_ (fun _ => ?_))
set_option maxHeartbeats 8000000 in
set_option maxRecDepth 100000 in
theorem spec_l03In.calls (k : Nat) (A0 : Option Addr) (c0 : Nat) (l0 : List ByteArray) (a1 : ByteArray) (r : Bool) (w : World) (hr0 : Kd.C Kd.string w A0 l0.length l0) (hc0 : l0.length ≤ c0) (h : spec_l03In.f k l0 a1 = some r) :
  Calls Try.prog 74 #[.slice A0 l0.length c0,.string a1] w fun e w' => e = .returned (.bool r) ∧ Drawn0 w w':=by
 have HR0:=zm_ hr0
 have HC0:=zm_ hc0
 clear hr0 hc0
 have H : (spec_l03In.l0 k l0 a1 0) = some r:=h
 clear h
 have H':=zm_ H
 clear H
 go_enter Try.func74,Try.ntmps74
 go_wp2
 go_loopg [5] k (fun kq v5 w' => ∃ (x5_1 : Int),v5 = .int .i64 x5_1 ∧ Aside0 (spec_l03In.l0 kq l0 a1 x5_1 = some r) ∧ Aside0 (kq ≤ k) ∧ Drawn0 w w')
 case atStart => exact ⟨(0),zV_,H',⟨Nat.le_refl _⟩,by repeat (first|exact Drawn0.refl _|apply Drawn0.step)⟩
 case round =>
  clear H'
  try clear p2
  obtain ⟨x5_1,rfl,HA,HK1,⟨m1,rfl⟩⟩:=hrel
  cases gk with
  |zero => exact absurd HA.out (by simp [spec_l03In.l0])
  |succ k1 =>
   have H:=HA.out
   clear HA
   simp only [spec_l03In.l0] at H
   by_cases c3 : x5_1 < (l0.length : Int)
   ·rw [if_pos c3] at H
    have c3b0 : decide (x5_1 < (l0.length : Int)) = true:=decide_eq_true c3
    clear c3
    by_cases c4 : 0 ≤ x5_1
    ·rw [if_pos c4] at H
     have c4b0 : decide (0 ≤ x5_1) = true:=decide_eq_true c4
     clear c4
     by_cases c5 : (rdOf ByteArray.empty l0 x5_1).toList = a1.toList
     ·rw [if_pos c5] at H
      have c5b0 : ((rdOf ByteArray.empty l0 x5_1).toList == a1.toList) = true:=beq_iff_eq.mpr c5
      have c5b1 : ((rdOf ByteArray.empty l0 x5_1).toList != a1.toList) = false:=bne_eq_false_iff_eq.mpr c5
      clear c5
      obtain rfl:=Option.some.inj H
      have p331 : 0 ≤ (x5_1 : Int):=zo_
      have q331 : x5_1 < (l0.length : Int):=zo_
      obtain ⟨ad331,e331,hx331_0⟩:=Kd.at_string HR0.out x5_1 p331 q331
      cases e331
      replace p331:=eq_true p331
      replace q331:=eq_true q331
      go_wp2
      go_ret
      exact ⟨by first|rfl|(simp;done)|(simp [*];done),by repeat (first|exact Drawn0.refl _|apply Drawn0.step)⟩
     ·rw [if_neg c5] at H
      have c5b0 : ((rdOf ByteArray.empty l0 x5_1).toList == a1.toList) = false:=beq_eq_false_iff_ne.mpr c5
      have c5b1 : ((rdOf ByteArray.empty l0 x5_1).toList != a1.toList) = true:=bne_iff_ne.mpr c5
      have H':=zm_ H
      clear H
      have p331 : 0 ≤ (x5_1 : Int):=zo_
      have q331 : x5_1 < (l0.length : Int):=zo_
      obtain ⟨ad331,e331,hx331_0⟩:=Kd.at_string HR0.out x5_1 p331 q331
      cases e331
      replace p331:=eq_true p331
      replace q331:=eq_true q331
      go_wp2
      go_roundg k1
      case measure => have:=HK1.out;omega
      case rel => exact ⟨(wrap64 (x5_1 + 1)),zV_,H',⟨by have:=HK1.out;omega⟩,by repeat (first|exact Drawn0.refl _|apply Drawn0.step)⟩
    ·rw [if_neg c4] at H
     exact absurd H (by simp)
   ·rw [if_neg c3] at H
    have c3b0 : decide (x5_1 < (l0.length : Int)) = false:=decide_eq_false c3
    clear c3
    obtain rfl:=Option.some.inj H
    go_wp2
    go_ret
    exact ⟨by first|rfl|(simp;done)|(simp [*];done),by repeat (first|exact Drawn0.refl _|apply Drawn0.step)⟩

end Go.Proofs.Ytnmhggdaccbbfaa.MFnExprFree
