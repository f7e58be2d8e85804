import Derived.Test.YtbkncnlehlldeaaMFnSetsMetx0
import Derived.Test.YtbkncnlehlldeaaMFnSetsMetx2
namespace Go.Proofs.Ytbkncnlehlldeaa.MFnSetsMet
open Go.RowKit Go.Proofs.YtbkncnlehlldeaaW.PrintWords Go.Proofs.YtbkncnlehlldeaaW.PrintLast Go.Proofs.YtbkncnlehlldeaaW.PrintMore
attribute [local go_sem] max2_int min2_int max_two min_two max_three min_three max_four min_four
set_option linter.unusedVariables false
set_option linter.unusedSimpArgs false

mutual
def spec_SetOf.l0 : Nat → ByteArray → List Bool → Int → Option (ByteArray × Bool)
 |0,_,_,_ => none
 |k + 1,x0,x4,x5 => if x5 < (x0.size : Int) then (if 0 ≤ x5 then ((spec_l05Byte.f (bt x0 x5)).bind fun t148 => (if t148 = true then (if 0 ≤ (bt x0 x5) then (if (bt x0 x5) < (x4.length : Int) then (spec_SetOf.l0 k x0 (x4.set ((bt x0 x5) : Int).toNat true) (wrap64 (x5 + 1))) else (none)) else (none)) else (some ((⟨#[]⟩ : ByteArray),false)))) else (none)) else (spec_SetOf.l1 k x4 (⟨#[]⟩ : ByteArray) 0)
def spec_SetOf.l1 : Nat → List Bool → ByteArray → Int → Option (ByteArray × Bool)
 |0,_,_,_ => none
 |k + 1,x4,x6,x7 => if x7 < 256 then (if 0 ≤ x7 then (if x7 < (x4.length : Int) then (if rdOf false x4 x7 = true then (spec_SetOf.l2 k x4 x6 x7 x7) else (spec_SetOf.l1 k x4 x6 (wrap64 (x7 + 1)))) else (none)) else (none)) else ((spec_SetOk.f k x6).bind fun t150 => (if t150 = true then (some (x6,true)) else (some ((⟨#[]⟩ : ByteArray),false))))
def spec_SetOf.l2 : Nat → List Bool → ByteArray → Int → Int → Option (ByteArray × Bool)
 |0,_,_,_,_ => none
 |k + 1,x4,x6,x7,x8 => if 0 ≤ (wrap64 (x8 + 1)) then (if (wrap64 (x8 + 1)) < (x4.length : Int) then (if rdOf false x4 (wrap64 (x8 + 1)) = true then (spec_SetOf.l2 k x4 x6 x7 (wrap64 (x8 + 1))) else (if (wrap64 (x8 - x7)) ≥ 2 then ((some (([(x7) % 256,45,(x8) % 256] : List Int) : List Int)).bind fun y153 => (if x6.size + (strOfNums y153).size ≤ 9223372036854775807 then (spec_SetOf.l1 k x4 (x6 ++ (strOfNums y153)) (wrap64 (x8 + 1))) else (none))) else (spec_SetOf.l3 k x4 x6 x8 x7))) else (none)) else (none)
def spec_SetOf.l3 : Nat → List Bool → ByteArray → Int → Int → Option (ByteArray × Bool)
 |0,_,_,_,_ => none
 |k + 1,x4,x6,x8,x9 => if x9 ≤ x8 then ((some (([(x9) % 256] : List Int) : List Int)).bind fun y156 => (if x6.size + (strOfNums y156).size ≤ 9223372036854775807 then (spec_SetOf.l3 k x4 (x6 ++ (strOfNums y156)) x8 (wrap64 (x9 + 1))) else (none))) else (spec_SetOf.l1 k x4 x6 (wrap64 (x8 + 1)))
end
def spec_SetOf.f (k : Nat) (a0 : ByteArray) : Option (ByteArray × Bool):=if 257 ≤ 281474976710656 then (spec_SetOf.l0 k a0 (List.replicate 257 false) 0) else (none)
theorem spec_SetOf.mono_l : ∀ k,(∀ y0 y1 y2,LeO (spec_SetOf.l0 k y0 y1 y2) (spec_SetOf.l0 (k + 1) y0 y1 y2)) ∧ (∀ y0 y1 y2,LeO (spec_SetOf.l1 k y0 y1 y2) (spec_SetOf.l1 (k + 1) y0 y1 y2)) ∧ (∀ y0 y1 y2 y3,LeO (spec_SetOf.l2 k y0 y1 y2 y3) (spec_SetOf.l2 (k + 1) y0 y1 y2 y3)) ∧ (∀ y0 y1 y2 y3,LeO (spec_SetOf.l3 k y0 y1 y2 y3) (spec_SetOf.l3 (k + 1) y0 y1 y2 y3))
 |0 => ⟨fun _ _ _ r h => by simp [spec_SetOf.l0] at h,fun _ _ _ r h => by simp [spec_SetOf.l1] at h,fun _ _ _ _ r h => by simp [spec_SetOf.l2] at h,fun _ _ _ _ r h => by simp [spec_SetOf.l3] at h⟩
 |k + 1 => by
  obtain ⟨ih0,ih1,ih2,ih3⟩:=spec_SetOf.mono_l k
  refine ⟨?_,?_,?_,?_⟩
  ·intro y0 y1 y2
   unfold spec_SetOf.l0
   repeat' first
   |(with_reducible exact ih0 _ _ _)
   |(with_reducible exact ih1 _ _ _)
   |(with_reducible exact ih2 _ _ _ _)
   |(with_reducible exact ih3 _ _ _ _)
   |(with_reducible exact spec_SetOk.mono _ _)
   |(with_reducible exact LeO.refl _)
   |(with_reducible exact LeO.none _)
   |(with_reducible refine LeO.ite ?_ ?_)
   |(with_reducible refine LeO.bind ?_ (fun _ => ?_))
  ·intro y0 y1 y2
   unfold spec_SetOf.l1
   repeat' first
   |(with_reducible exact ih0 _ _ _)
   |(with_reducible exact ih1 _ _ _)
   |(with_reducible exact ih2 _ _ _ _)
   |(with_reducible exact ih3 _ _ _ _)
   |(with_reducible exact spec_SetOk.mono _ _)
   |(with_reducible exact LeO.refl _)
   |(with_reducible exact LeO.none _)
   |(with_reducible refine LeO.ite ?_ ?_)
   |(with_reducible refine LeO.bind ?_ (fun _ => ?_))
  ·intro y0 y1 y2 y3
   unfold spec_SetOf.l2
   repeat' first
   |(with_reducible exact ih0 _ _ _)
   |(with_reducible exact ih1 _ _ _)
   |(with_reducible exact ih2 _ _ _ _)
   |(with_reducible exact ih3 _ _ _ _)
   |(with_reducible exact spec_SetOk.mono _ _)
   |(with_reducible exact LeO.refl _)
   |(with_reducible exact LeO.none _)
   |(with_reducible refine LeO.ite ?_ ?_)
   |(with_reducible refine LeO.bind ?_ (fun _ => ?_))
  ·intro y0 y1 y2 y3
   unfold spec_SetOf.l3
   repeat' first
   |(with_reducible exact ih0 _ _ _)
   |(with_reducible exact ih1 _ _ _)
   |(with_reducible exact ih2 _ _ _ _)
   |(with_reducible exact ih3 _ _ _ _)
   |(with_reducible exact spec_SetOk.mono _ _)
   |(with_reducible exact LeO.refl _)
   |(with_reducible exact LeO.none _)
   |(with_reducible refine LeO.ite ?_ ?_)
   |(with_reducible refine LeO.bind ?_ (fun _ => ?_))
theorem spec_SetOf.mono : ∀ a0 k,LeO (spec_SetOf.f k a0) (spec_SetOf.f (k + 1) a0):=by
 intro a0 k
 obtain ⟨ih0,ih1,ih2,ih3⟩:=spec_SetOf.mono_l k
 unfold spec_SetOf.f
 repeat' first
   |(with_reducible exact ih0 _ _ _)
   |(with_reducible exact ih1 _ _ _)
   |(with_reducible exact ih2 _ _ _ _)
   |(with_reducible exact ih3 _ _ _ _)
   |(with_reducible exact spec_SetOk.mono _ _)
   |(with_reducible exact LeO.refl _)
   |(with_reducible exact LeO.none _)
   |(with_reducible refine LeO.ite ?_ ?_)
   |(with_reducible refine LeO.bind ?_ (fun _ => ?_))
set_option maxHeartbeats 8000000 in
set_option maxRecDepth 100000 in
theorem spec_SetOf.calls (k : Nat) (a0 : ByteArray) (r1 : ByteArray) (r2 : Bool) (w : World) (h : spec_SetOf.f k a0 = some (r1,r2)) :
  Calls Try.prog 19 #[.string a0] w fun e w' => e = .returned (.tuple #[.string r1,.bool r2]) ∧ Below w.heap.size w w':=by
 have HB:=zm_ (Below.refl w.heap.size w)
 have H : (if 257 ≤ 281474976710656 then (spec_SetOf.l0 k a0 (List.replicate 257 false) 0) else (none)) = some (r1,r2):=h
 clear h
 by_cases c2 : 257 ≤ 281474976710656
 ·rw [if_pos c2] at H
  have c2b0:=eq_true c2
  have c2b1 : decide (257 ≤ 281474976710656) = true:=decide_eq_true c2
  clear c2
  obtain ⟨y145,hy145⟩ : ∃ y_ : List Bool,y_ = (List.replicate 257 false):=⟨_,rfl⟩
  replace H : (spec_SetOf.l0 k a0 y145 0) = some (r1,r2):=by first|(rw [hy145];with_reducible exact H)|(have H2_:=(Option.bind_some _ _).symm.trans H;rw [hy145];with_reducible exact H2_)|(have H2_:=(Option.bind_some _ _).symm.trans H;with_reducible exact H2_)|with_reducible exact H|(rw [hy145];exact H)|exact H
  have Ny145:=zm_ hy145
  clear hy145
  have H':=zm_ H
  clear H
  go_enter Try.func19,Try.ntmps19
  go_wp2_with (first|((with_reducible refine gate_dst (N:=10) rfl ?_);refine Kd.R_make Kd.bool _ 4 rfl (N:=10) rfl 39 _ _ rfl 257 rfl rfl Try.underlying39 (.bool false) 1 info4 rfl (by decide) (by omega) false (ok:=fun _ => True) (okp:=fun _ => True) rfl (fun _ hk => hk) trivial (by omega) (by omega) (Below.refl _ _) (Nat.le_refl _) ?_;intro v146 w3 ho4 hb hg_ hnew_;clear hg_ hnew_;(first|rw [← Ny145.out] at ho4|(simp only [Int.reduceToNat] at ho4;rw [← Ny145.out] at ho4));have n0_:=zm_ (Kd.R_lower ho4 (below_size zB_));have n1_:=zm_ (below_step zB_ hb);clear HB;have HO147:=n0_;have HB:=n1_;clear n0_ n1_;clear hb ho4))
  go_loopg [5] k (fun kq v5 w' => ∃ (x4_1 : List Bool) (x5_1 : Int),v5 = .int .i64 x5_1 ∧ Aside0 (spec_SetOf.l0 kq a0 x4_1 x5_1 = some (r1,r2)) ∧ Aside0 (kq ≤ k) ∧ Aside0 (Kd.R Kd.bool 4 w' w.heap.size (fun _ => True) v146 x4_1) ∧ Aside0 (Below w.heap.size w w'))
  case atStart => exact ⟨(y145),(0),zV_,H',⟨Nat.le_refl _⟩,⟨by (with_reducible repeat (first|apply Kd.R_alloc|apply Kd.R_drewN|apply Kd.R_drew));exact HO147.out⟩,⟨by repeat (first|(with_reducible first|exact HB.out|apply za_|apply zn_|apply zd_)|exact HB.out)⟩⟩
  case round =>
   clear H'
   try clear c1
   try clear c2
   try clear c2b0
   try clear c2b1
   try clear p2
   obtain ⟨x4_1,x5_1,rfl,HA,HK1,HO_4,HB⟩:=hrel
   cases gk with
   |zero => exact absurd HA.out (by simp [spec_SetOf.l0])
   |succ k1 =>
    have H:=HA.out
    clear HA
    simp only [spec_SetOf.l0] at H
    by_cases c5 : x5_1 < (a0.size : Int)
    ·rw [if_pos c5] at H
     have c5b0 : decide (x5_1 < (a0.size : Int)) = true:=decide_eq_true c5
     clear c5
     by_cases c6 : 0 ≤ x5_1
     ·rw [if_pos c6] at H
      have c6b0 : decide (0 ≤ x5_1) = true:=decide_eq_true c6
      clear c6
      replace H:=Option.bind_eq_some_iff.mp H
      obtain ⟨t148,A80,H⟩:=H
      replace H : (if t148 = true then (if 0 ≤ (bt a0 x5_1) then (if (bt a0 x5_1) < (x4_1.length : Int) then (spec_SetOf.l0 k1 a0 (x4_1.set ((bt a0 x5_1) : Int).toNat true) (wrap64 (x5_1 + 1))) else (none)) else (none)) else (some ((⟨#[]⟩ : ByteArray),false))) = some (r1,r2):=H
      have A8:=zm_ A80
      clear A80
      by_cases c9 : t148 = true
      ·subst c9
       have H1 : (if 0 ≤ (bt a0 x5_1) then (if (bt a0 x5_1) < (x4_1.length : Int) then (spec_SetOf.l0 k1 a0 (x4_1.set ((bt a0 x5_1) : Int).toNat true) (wrap64 (x5_1 + 1))) else (none)) else (none)) = some (r1,r2):=by rw [if_pos rfl] at H;exact H
       clear H
       have H:=H1
       clear H1
       by_cases c11 : 0 ≤ (bt a0 x5_1)
       ·rw [if_pos c11] at H
        have c11b0 : decide (0 ≤ (bt a0 x5_1)) = true:=decide_eq_true c11
        clear c11
        by_cases c12 : (bt a0 x5_1) < (x4_1.length : Int)
        ·rw [if_pos c12] at H
         have c12b0 : decide ((bt a0 x5_1) < (x4_1.length : Int)) = true:=decide_eq_true c12
         clear c12
         obtain ⟨y149,hy149⟩ : ∃ y_ : List Bool,y_ = (x4_1.set ((bt a0 x5_1) : Int).toNat true):=⟨_,rfl⟩
         replace H : (spec_SetOf.l0 k1 a0 y149 (wrap64 (x5_1 + 1))) = some (r1,r2):=by first|(rw [hy149];with_reducible exact H)|(have H2_:=(Option.bind_some _ _).symm.trans H;rw [hy149];with_reducible exact H2_)|(have H2_:=(Option.bind_some _ _).symm.trans H;with_reducible exact H2_)|with_reducible exact H|(rw [hy149];exact H)|exact H
         have Ny149:=zm_ hy149
         clear hy149
         have H':=zm_ H
         clear H
         have p7 : 0 ≤ (x5_1 : Int):=zo_
         have q7 : x5_1 < (a0.size : Int):=zo_
         have hx7:=bt_at a0 x5_1
         replace p7:=eq_true p7
         replace q7:=eq_true q7
         go_wp2_with (first|((with_reducible refine gate_callee (f:=35) rfl ?_);refine goesL_ (some 20) rfl rfl Try.func35 (by kernel_rfl) rfl #[.int .u8 (bt a0 x5_1)] rfl zq_ ?_;(with_reducible refine (spec_l05Byte.calls (bt a0 x5_1) true _ A8.out).mono ?_);rintro e w' ⟨rfl,⟨nd,rfl⟩⟩;refine ⟨_,rfl,?_⟩;(try (rw [drewN_self wr];generalize hq_ : World.drewN wr _ = wr;have n0_ : Aside0 (Kd.R Kd.bool 4 wr w.heap.size (fun _ => True) v146 x4_1):=⟨by rw [← hq_];exact (by (with_reducible repeat (first|apply Kd.R_alloc|apply Kd.R_drewN|apply Kd.R_drew));exact HO_4.out)⟩;have n1_ : Aside0 (Below w.heap.size w wr):=⟨by rw [← hq_];exact zB_⟩;clear HO_4 HB hq_;have HO_4:=n0_;have HB:=n1_;clear n0_ n1_));have p10 : 0 ≤ (x5_1 : Int):=zo_;have q10 : x5_1 < (a0.size : Int):=zo_;have hx10:=bt_at a0 x5_1;replace p10:=eq_true p10;replace q10:=eq_true q10;have p13 : 0 ≤ ((bt a0 x5_1) : Int):=zo_;have q13 : ((bt a0 x5_1) : Int) < ((x4_1.length : Int) : Int):=zo_;obtain ⟨go13,co13,eo13,gb13,gl13,cl13,HG13⟩:=Kd.R_form HO_4.out (by omega);(first|cases eo13|(injection eo13 with ea_ en_ ec_;(first|subst ea_|(injection ea_ with ea_;subst ea_));subst ec_;clear en_));have GB13:=zm_ gb13;have GG13:=zm_ HG13;clear gb13 gl13 HG13;obtain ⟨hx13_0,hf13_0⟩:=Kd.R_celln false HO_4.out ((bt a0 x5_1) : Int) p13 q13;replace p13:=eq_true p13;replace q13:=eq_true q13;obtain ⟨hy14_,hz14_⟩:=Kd.R_celln false HO_4.out ((bt a0 x5_1) : Int) (zo_) (zo_);have HP14:=Kd.R_putg HO_4.out ((bt a0 x5_1) : Int) true)|((with_reducible refine gate_store (t:=4) (p:=26) rfl ?_);refine store_event (t:=4) (p:=26) (v:=?vo_w15) (w1:=(wr.setCell ⟨go13,((bt a0 x5_1) : Int).toNat,none⟩ (.bool true))) ?hg ?ho ?hn ?hr ?_;(case ho => rfl);(case hg => rfl);(case hn => rfl);(case hr => first|(go_simp;done)|(go_simp;rfl));intro w15 hw;have hg : wr.grownBy w15 (some go13):=(by rw [hw];exact HP14.2);have hp_ : Kd.R Kd.bool 4 w15 w.heap.size (fun _ => True) (.slice (some ⟨go13,0,none⟩) x4_1.length co13) y149:=(by rw [hw,Ny149.out];exact HP14.1);clear HP14;have n0_:=zm_ (hp_);have n1_:=zm_ ((by rw [hw];exact zs_ (HB.out) GB13.out : Below w.heap.size w w15));clear HO_4;clear HB;have HO_4:=n0_;have HB:=n1_;clear n0_ n1_;clear hg hw hp_))
         go_roundg k1
         case measure => have:=HK1.out;omega
         case rel => exact ⟨(y149),(wrap64 (x5_1 + 1)),zV_,H',⟨by have:=HK1.out;omega⟩,⟨by (with_reducible repeat (first|apply Kd.R_alloc|apply Kd.R_drewN|apply Kd.R_drew));exact HO_4.out⟩,⟨by repeat (first|(with_reducible first|exact HB.out|apply za_|apply zn_|apply zd_)|exact HB.out)⟩⟩
        ·rw [if_neg c12] at H
         exact absurd H (by simp)
       ·rw [if_neg c11] at H
        exact absurd H (by simp)
      ·replace c9:=Bool.eq_false_iff.mpr c9
       subst c9
       have H1 : (some ((⟨#[]⟩ : ByteArray),false)) = some (r1,r2):=by rw [if_neg (show ¬ (false = true) by decide)] at H;exact H
       clear H
       have H:=H1
       clear H1
       simp only [Option.some.injEq,Prod.mk.injEq] at H
       obtain ⟨rfl,rfl⟩:=H
       have p7 : 0 ≤ (x5_1 : Int):=zo_
       have q7 : x5_1 < (a0.size : Int):=zo_
       have hx7:=bt_at a0 x5_1
       replace p7:=eq_true p7
       replace q7:=eq_true q7
       go_wp2_with (first|((with_reducible refine gate_callee (f:=35) rfl ?_);refine goesL_ (some 20) rfl rfl Try.func35 (by kernel_rfl) rfl #[.int .u8 (bt a0 x5_1)] rfl zq_ ?_;(with_reducible refine (spec_l05Byte.calls (bt a0 x5_1) false _ A8.out).mono ?_);rintro e w' ⟨rfl,⟨nd,rfl⟩⟩;refine ⟨_,rfl,?_⟩))
       go_ret2
       exact ⟨zE_,by repeat (first|(with_reducible first|exact HB.out|apply za_|apply zn_|apply zd_)|exact HB.out)⟩
     ·rw [if_neg c6] at H
      exact absurd H (by simp)
    ·rw [if_neg c5] at H
     have c5b0 : decide (x5_1 < (a0.size : Int)) = false:=decide_eq_false c5
     clear c5
     have H':=zm_ H
     clear H
     go_wp2
     go_loopg [6,7] k1 (fun kq v6 v7 w' => ∃ (x6_2 : ByteArray) (x7_2 : Int),v6 = .string x6_2 ∧ v7 = .int .i64 x7_2 ∧ Aside0 (spec_SetOf.l1 kq x4_1 x6_2 x7_2 = some (r1,r2)) ∧ Aside0 (kq ≤ k1) ∧ Aside0 (Kd.R Kd.bool 4 w' w.heap.size (fun _ => True) v146 x4_1) ∧ Aside0 (Below w.heap.size w w'))
     case atStart => exact ⟨((⟨#[]⟩ : ByteArray)),(0),zV_,zV_,H',⟨Nat.le_refl _⟩,⟨by (with_reducible repeat (first|apply Kd.R_alloc|apply Kd.R_drewN|apply Kd.R_drew));exact HO_4.out⟩,⟨by repeat (first|(with_reducible first|exact HB.out|apply za_|apply zn_|apply zd_)|exact HB.out)⟩⟩
     case round =>
      clear H'
      try clear c1
      try clear p1
      try clear q1
      try clear hx1
      try clear hf1
      try clear c2
      try clear c2b0
      try clear c2b1
      try clear p2
      try clear c3
      try clear c5
      try clear c5b0
      try clear c6
      try clear c6b0
      try clear p6
      try clear p7
      try clear q7
      try clear hx7
      try clear c9
      try clear p10
      try clear q10
      try clear hx10
      try clear c11
      try clear c11b0
      try clear c12
      try clear c12b0
      try clear p13
      try clear q13
      try clear hx13
      try clear hf13
      try clear hx13_0
      try clear p10
      try clear p13
      try clear p2
      try clear p7
      try clear q10
      try clear q13
      try clear q7
      obtain ⟨x6_2,x7_2,rfl,rfl,HA,HK2,HO_4,HB⟩:=hrel
      cases gk with
      |zero => exact absurd HA.out (by simp [spec_SetOf.l1])
      |succ k2 =>
       have H:=HA.out
       clear HA
       simp only [spec_SetOf.l1] at H
       by_cases c16 : x7_2 < 256
       ·rw [if_pos c16] at H
        have c16b0 : decide (x7_2 < 256) = true:=decide_eq_true c16
        clear c16
        by_cases c17 : 0 ≤ x7_2
        ·rw [if_pos c17] at H
         have c17b0 : decide (0 ≤ x7_2) = true:=decide_eq_true c17
         clear c17
         by_cases c18 : x7_2 < (x4_1.length : Int)
         ·rw [if_pos c18] at H
          have c18b0 : decide (x7_2 < (x4_1.length : Int)) = true:=decide_eq_true c18
          clear c18
          obtain ⟨bq19,hbq19⟩ : ∃ b_ : Bool,b_ = (rdOf false x4_1 x7_2):=⟨_,rfl⟩
          replace H : (if bq19 = true then (spec_SetOf.l2 k2 x4_1 x6_2 x7_2 x7_2) else (spec_SetOf.l1 k2 x4_1 x6_2 (wrap64 (x7_2 + 1)))) = some (r1,r2):=by rw [← hbq19] at H;exact H
          have Nbq19:=zm_ hbq19
          clear hbq19
          by_cases c20 : bq19 = true
          ·subst c20
           have H1 : (spec_SetOf.l2 k2 x4_1 x6_2 x7_2 x7_2) = some (r1,r2):=by rw [if_pos rfl] at H;exact H
           clear H
           have H:=H1
           clear H1
           have H':=zm_ H
           clear H
           obtain ⟨Ao21,co21,eo21⟩:=Kd.R_slice HO_4.out
           subst eo21
           have p151 : 0 ≤ (x7_2 : Int):=zo_
           have q151 : x7_2 < (x4_1.length : Int):=zo_
           obtain ⟨ad151,e151,hx151_0⟩:=Kd.at_bool (Kd.R_reads' HO_4.out).2.2 x7_2 p151 q151
           (try rw [← Nbq19.out] at hx151_0)
           cases e151
           replace p151:=eq_true p151
           replace q151:=eq_true q151
           go_wp2
           go_loopg [8] k2 (fun kq v8 w' => ∃ (x8_3 : Int),v8 = .int .i64 x8_3 ∧ Aside0 (spec_SetOf.l2 kq x4_1 x6_2 x7_2 x8_3 = some (r1,r2)) ∧ Aside0 (kq ≤ k2) ∧ Aside0 (Kd.R Kd.bool 4 w' w.heap.size (fun _ => True) (.slice (some ad151) x4_1.length co21) x4_1) ∧ Aside0 (Below w.heap.size w w'))
           case atStart => exact ⟨(x7_2),zV_,H',⟨Nat.le_refl _⟩,⟨by (with_reducible repeat (first|apply Kd.R_alloc|apply Kd.R_drewN|apply Kd.R_drew));exact HO_4.out⟩,⟨by repeat (first|(with_reducible first|exact HB.out|apply za_|apply zn_|apply zd_)|exact HB.out)⟩⟩
           case round =>
            clear H'
            try clear c1
            try clear p1
            try clear q1
            try clear hx1
            try clear hf1
            try clear c2
            try clear c2b0
            try clear c2b1
            try clear p2
            try clear c3
            try clear c5
            try clear c5b0
            try clear c6
            try clear c6b0
            try clear p6
            try clear p7
            try clear q7
            try clear hx7
            try clear c9
            try clear p10
            try clear q10
            try clear hx10
            try clear c11
            try clear c11b0
            try clear c12
            try clear c12b0
            try clear p13
            try clear q13
            try clear hx13
            try clear hf13
            try clear p15
            try clear q15
            try clear hx15
            try clear c16
            try clear c16b0
            try clear c17
            try clear c17b0
            try clear c18
            try clear c18b0
            try clear c19
            try clear q19
            try clear c20
            try clear hx13_0
            try clear hx151_0
            try clear p1
            try clear p10
            try clear p13
            try clear p151
            try clear p2
            try clear p6
            try clear p7
            try clear q1
            try clear q10
            try clear q13
            try clear q151
            try clear q7
            obtain ⟨x8_3,rfl,HA,HK3,HO_4,HB⟩:=hrel
            cases gk with
            |zero => exact absurd HA.out (by simp [spec_SetOf.l2])
            |succ k3 =>
             have H:=HA.out
             clear HA
             simp only [spec_SetOf.l2] at H
             obtain ⟨ji22,hji22⟩ : ∃ j_ : Int,(wrap64 (x8_3 + 1)) = j_:=⟨_,rfl⟩
             replace H : (if 0 ≤ (ji22) then (if (ji22) < (x4_1.length : Int) then (if rdOf false x4_1 (ji22) = true then (spec_SetOf.l2 k3 x4_1 x6_2 x7_2 ji22) else (if (wrap64 (x8_3 - x7_2)) ≥ 2 then ((some (([(x7_2) % 256,45,(x8_3) % 256] : List Int) : List Int)).bind fun y153 => (if x6_2.size + (strOfNums y153).size ≤ 9223372036854775807 then (spec_SetOf.l1 k3 x4_1 (x6_2 ++ (strOfNums y153)) ji22) else (none))) else (spec_SetOf.l3 k3 x4_1 x6_2 x8_3 x7_2))) else (none)) else (none)) = some (r1,r2):=by first|(rw [hji22] at H;exact H)|(simp only [hji22] at H ⊢;exact H)
             have hji22w : (IntKind.i64.wrap (x8_3 + 1)) = ji22:=(i64_w _).trans hji22
             by_cases c23 : 0 ≤ (ji22)
             ·rw [if_pos c23] at H
              have c23b0 : decide (0 ≤ (ji22)) = true:=decide_eq_true c23
              clear c23
              by_cases c24 : (ji22) < (x4_1.length : Int)
              ·rw [if_pos c24] at H
               have c24b0 : decide ((ji22) < (x4_1.length : Int)) = true:=decide_eq_true c24
               clear c24
               obtain ⟨bq25,hbq25⟩ : ∃ b_ : Bool,b_ = (rdOf false x4_1 (ji22)):=⟨_,rfl⟩
               replace H : (if bq25 = true then (spec_SetOf.l2 k3 x4_1 x6_2 x7_2 ji22) else (if (wrap64 (x8_3 - x7_2)) ≥ 2 then ((some (([(x7_2) % 256,45,(x8_3) % 256] : List Int) : List Int)).bind fun y153 => (if x6_2.size + (strOfNums y153).size ≤ 9223372036854775807 then (spec_SetOf.l1 k3 x4_1 (x6_2 ++ (strOfNums y153)) ji22) else (none))) else (spec_SetOf.l3 k3 x4_1 x6_2 x8_3 x7_2))) = some (r1,r2):=by rw [← hbq25] at H;exact H
               have Nbq25:=zm_ hbq25
               clear hbq25
               by_cases c26 : bq25 = true
               ·subst c26
                have H1 : (spec_SetOf.l2 k3 x4_1 x6_2 x7_2 ji22) = some (r1,r2):=by rw [if_pos rfl] at H;exact H
                clear H
                have H:=H1
                clear H1
                have H':=zm_ H
                clear H
                have p152 : 0 ≤ ((ji22) : Int):=zo_
                have q152 : (ji22) < (x4_1.length : Int):=zo_
                obtain ⟨ad152,e152,hx152_0⟩:=Kd.at_bool (Kd.R_reads' HO_4.out).2.2 (ji22) p152 q152
                (try rw [← Nbq19.out] at hx152_0)
                (try rw [← Nbq25.out] at hx152_0)
                obtain rfl : ad151 = ad152:=(by injection e152)
                replace p152:=eq_true p152
                replace q152:=eq_true q152
                go_wp2
                go_roundg k3
                case measure => have:=HK1.out;have:=HK2.out;have:=HK3.out;omega
                case rel => exact ⟨(ji22),(by first|rfl|(exact congrArg Value.bool (isEmpty_ne _))|(exact congrArg Value.bool (isEmpty_ne' _))|(exact congrArg Value.bool (isEmpty_eq _))|(simp;done)|(simp only [← hji22] <;> (first|rfl|simp))|(simp [*];done)),(by first|exact H'|(rw [hji22];exact H')|(simp only [hji22];exact H')),⟨by have:=HK1.out;have:=HK2.out;have:=HK3.out;omega⟩,⟨by (with_reducible repeat (first|apply Kd.R_alloc|apply Kd.R_drewN|apply Kd.R_drew));exact HO_4.out⟩,⟨by repeat (first|(with_reducible first|exact HB.out|apply za_|apply zn_|apply zd_)|exact HB.out)⟩⟩
               ·replace c26:=Bool.eq_false_iff.mpr c26
                subst c26
                have H1 : (if (wrap64 (x8_3 - x7_2)) ≥ 2 then ((some (([(x7_2) % 256,45,(x8_3) % 256] : List Int) : List Int)).bind fun y153 => (if x6_2.size + (strOfNums y153).size ≤ 9223372036854775807 then (spec_SetOf.l1 k3 x4_1 (x6_2 ++ (strOfNums y153)) ji22) else (none))) else (spec_SetOf.l3 k3 x4_1 x6_2 x8_3 x7_2)) = some (r1,r2):=by rw [if_neg (show ¬ (false = true) by decide)] at H;exact H
                clear H
                have H:=H1
                clear H1
                by_cases c27 : (wrap64 (x8_3 - x7_2)) ≥ 2
                ·rw [if_pos c27] at H
                 have c27b0 : decide (2 ≤ (wrap64 (x8_3 - x7_2))) = true:=decide_eq_true c27
                 clear c27
                 obtain ⟨y153,hy153⟩ : ∃ y_ : List Int,y_ = (([(x7_2) % 256,45,(x8_3) % 256] : List Int)):=⟨_,rfl⟩
                 replace H : (if x6_2.size + (strOfNums y153).size ≤ 9223372036854775807 then (spec_SetOf.l1 k3 x4_1 (x6_2 ++ (strOfNums y153)) ji22) else (none)) = some (r1,r2):=by first|(rw [hy153];with_reducible exact H)|(have H2_:=(Option.bind_some _ _).symm.trans H;rw [hy153];with_reducible exact H2_)|(have H2_:=(Option.bind_some _ _).symm.trans H;with_reducible exact H2_)|with_reducible exact H|(rw [hy153];exact H)|exact H
                 have Ny153:=zm_ hy153
                 clear hy153
                 by_cases c28 : x6_2.size + (strOfNums y153).size ≤ 9223372036854775807
                 ·rw [if_pos c28] at H
                  have c28b0:=eq_true c28
                  have c28b1 : decide (x6_2.size + (strOfNums y153).size ≤ 9223372036854775807) = true:=decide_eq_true c28
                  try have c28b2 : (9223372036854775807 < x6_2.size + (strOfNums y153).size) = False:=eq_false (Nat.not_lt.2 c28)
                  have H':=zm_ H
                  clear H
                  have p152 : 0 ≤ ((ji22) : Int):=zo_
                  have q152 : (ji22) < (x4_1.length : Int):=zo_
                  obtain ⟨ad152,e152,hx152_0⟩:=Kd.at_bool (Kd.R_reads' HO_4.out).2.2 (ji22) p152 q152
                  (try rw [← Nbq19.out] at hx152_0)
                  (try rw [← Nbq25.out] at hx152_0)
                  obtain rfl : ad151 = ad152:=(by injection e152)
                  replace p152:=eq_true p152
                  replace q152:=eq_true q152
                  go_wp2_with (first|((with_reducible refine gate_dst (N:=53) rfl ?_);refine Kd.R_lit (Kd.int .u8) _ 5 ?hg (N:=53) ?hd (xs:=([(x7_2) % 256,45,(x8_3) % 256] : List Int)) (inner:=[.int .u8 ((x7_2) % 256),.int .u8 45,.int .u8 ((x8_3) % 256)]) (ok:=fun _ => True) (okp:=fun _ => True) ?hr ?hp (fun _ hk => hk) trivial (Below.refl _ _) (Nat.le_refl _) (by simp) ?_;(case hd => rfl);(case hg => rfl);(case hr => first|(go_simp;done)|(go_simp;rfl));(case hp => exact (Reps.one (show Kd.M (Kd.int .u8) _ _ _ ((x7_2) % 256) [.int .u8 ((x7_2) % 256)] from rfl) (Reps.one (show Kd.M (Kd.int .u8) _ _ _ 45 [.int .u8 45] from rfl) (Reps.one (show Kd.M (Kd.int .u8) _ _ _ ((x8_3) % 256) [.int .u8 ((x8_3) % 256)] from rfl) (Reps.none _ _)))));intro v154 w29 ho30 hb hg_ hnew_;clear hg_ hnew_;(first|rw [← Ny153.out] at ho30|(simp only [Int.reduceToNat] at ho30;rw [← Ny153.out] at ho30));have n0_:=zm_ (Kd.R_below (by (with_reducible repeat (first|apply Kd.R_alloc|apply Kd.R_drewN|apply Kd.R_drew));exact HO_4.out) hb);have n1_:=zm_ (Kd.R_lower ho30 (below_size zB_));have n2_:=zm_ (below_step zB_ hb);clear HO_4;clear HB;have HO_4:=n0_;have HO155:=n1_;have HB:=n2_;clear n0_ n1_ n2_;clear hb ho30;have hcv31:=own_string (P:=Try.prog) Try.underlying29 Try.underlying5 Try.underlying9 (Kd.own_of_R HO155.out)))
                  go_roundg k3
                  case measure => have:=HK1.out;have:=HK2.out;have:=HK3.out;omega
                  case rel => exact ⟨(x6_2 ++ (strOfNums y153)),(ji22),zV_,(by first|rfl|(exact congrArg Value.bool (isEmpty_ne _))|(exact congrArg Value.bool (isEmpty_ne' _))|(exact congrArg Value.bool (isEmpty_eq _))|(simp;done)|(simp only [← hji22] <;> (first|rfl|simp))|(simp [*];done)),(by first|exact H'|(rw [hji22];exact H')|(simp only [hji22];exact H')),⟨by have:=HK1.out;have:=HK2.out;have:=HK3.out;omega⟩,⟨by (with_reducible repeat (first|apply Kd.R_alloc|apply Kd.R_drewN|apply Kd.R_drew));exact HO_4.out⟩,⟨by repeat (first|(with_reducible first|exact HB.out|apply za_|apply zn_|apply zd_)|exact HB.out)⟩⟩
                 ·rw [if_neg c28] at H
                  exact absurd H (by simp)
                ·rw [if_neg c27] at H
                 have c27b0 : decide (2 ≤ (wrap64 (x8_3 - x7_2))) = false:=decide_eq_false c27
                 clear c27
                 have H':=zm_ H
                 clear H
                 have p152 : 0 ≤ ((ji22) : Int):=zo_
                 have q152 : (ji22) < (x4_1.length : Int):=zo_
                 obtain ⟨ad152,e152,hx152_0⟩:=Kd.at_bool (Kd.R_reads' HO_4.out).2.2 (ji22) p152 q152
                 (try rw [← Nbq19.out] at hx152_0)
                 (try rw [← Nbq25.out] at hx152_0)
                 obtain rfl : ad151 = ad152:=(by injection e152)
                 replace p152:=eq_true p152
                 replace q152:=eq_true q152
                 go_wp2
                 go_loopg [6,9] k3 (fun kq v6 v9 w' => ∃ (x6_4 : ByteArray) (x9_4 : Int),v6 = .string x6_4 ∧ v9 = .int .i64 x9_4 ∧ Aside0 (spec_SetOf.l3 kq x4_1 x6_4 x8_3 x9_4 = some (r1,r2)) ∧ Aside0 (kq ≤ k3) ∧ Aside0 (Kd.R Kd.bool 4 w' w.heap.size (fun _ => True) (.slice (some ad151) x4_1.length co21) x4_1) ∧ Aside0 (Below w.heap.size w w'))
                 case atStart => exact ⟨(x6_2),(x7_2),zV_,zV_,H',⟨Nat.le_refl _⟩,⟨by (with_reducible repeat (first|apply Kd.R_alloc|apply Kd.R_drewN|apply Kd.R_drew));exact HO_4.out⟩,⟨by repeat (first|(with_reducible first|exact HB.out|apply za_|apply zn_|apply zd_)|exact HB.out)⟩⟩
                 case round =>
                  clear H'
                  try clear c1
                  try clear p1
                  try clear q1
                  try clear hx1
                  try clear hf1
                  try clear c2
                  try clear c2b0
                  try clear c2b1
                  try clear p2
                  try clear q2
                  try clear c3
                  try clear hcv3
                  try clear c5
                  try clear c5b0
                  try clear c6
                  try clear c6b0
                  try clear p6
                  try clear p7
                  try clear q7
                  try clear hx7
                  try clear c9
                  try clear p10
                  try clear q10
                  try clear hx10
                  try clear c11
                  try clear c11b0
                  try clear c12
                  try clear c12b0
                  try clear p13
                  try clear q13
                  try clear hx13
                  try clear hf13
                  try clear p15
                  try clear q15
                  try clear hx15
                  try clear c16
                  try clear c16b0
                  try clear c17
                  try clear c17b0
                  try clear c18
                  try clear c18b0
                  try clear c19
                  try clear q19
                  try clear c20
                  try clear c23
                  try clear c23b0
                  try clear c24
                  try clear c24b0
                  try clear q25
                  try clear c26
                  try clear c27
                  try clear c27b0
                  try clear c28
                  try clear c28b0
                  try clear c28b1
                  try clear c28b2
                  try clear hcv31
                  try clear hx13_0
                  try clear hx151_0
                  try clear hx152_0
                  try clear p1
                  try clear p10
                  try clear p13
                  try clear p15
                  try clear p151
                  try clear p152
                  try clear p2
                  try clear p6
                  try clear p7
                  try clear q1
                  try clear q10
                  try clear q13
                  try clear q15
                  try clear q151
                  try clear q152
                  try clear q19
                  try clear q7
                  obtain ⟨x6_4,x9_4,rfl,rfl,HA,HK4,HO_4,HB⟩:=hrel
                  cases gk with
                  |zero => exact absurd HA.out (by simp [spec_SetOf.l3])
                  |succ k4 =>
                   have H:=HA.out
                   clear HA
                   simp only [spec_SetOf.l3] at H
                   by_cases c32 : x9_4 ≤ x8_3
                   ·rw [if_pos c32] at H
                    have c32b0 : decide (x9_4 ≤ x8_3) = true:=decide_eq_true c32
                    clear c32
                    obtain ⟨y156,hy156⟩ : ∃ y_ : List Int,y_ = (([(x9_4) % 256] : List Int)):=⟨_,rfl⟩
                    replace H : (if x6_4.size + (strOfNums y156).size ≤ 9223372036854775807 then (spec_SetOf.l3 k4 x4_1 (x6_4 ++ (strOfNums y156)) x8_3 (wrap64 (x9_4 + 1))) else (none)) = some (r1,r2):=by first|(rw [hy156];with_reducible exact H)|(have H2_:=(Option.bind_some _ _).symm.trans H;rw [hy156];with_reducible exact H2_)|(have H2_:=(Option.bind_some _ _).symm.trans H;with_reducible exact H2_)|with_reducible exact H|(rw [hy156];exact H)|exact H
                    have Ny156:=zm_ hy156
                    clear hy156
                    by_cases c33 : x6_4.size + (strOfNums y156).size ≤ 9223372036854775807
                    ·rw [if_pos c33] at H
                     have c33b0:=eq_true c33
                     have c33b1 : decide (x6_4.size + (strOfNums y156).size ≤ 9223372036854775807) = true:=decide_eq_true c33
                     try have c33b2 : (9223372036854775807 < x6_4.size + (strOfNums y156).size) = False:=eq_false (Nat.not_lt.2 c33)
                     have H':=zm_ H
                     clear H
                     go_wp2_with (first|((with_reducible refine gate_dst (N:=65) rfl ?_);refine Kd.R_lit (Kd.int .u8) _ 5 ?hg (N:=65) ?hd (xs:=([(x9_4) % 256] : List Int)) (inner:=[.int .u8 ((x9_4) % 256)]) (ok:=fun _ => True) (okp:=fun _ => True) ?hr ?hp (fun _ hk => hk) trivial (Below.refl _ _) (Nat.le_refl _) (by simp) ?_;(case hd => rfl);(case hg => rfl);(case hr => first|(go_simp;done)|(go_simp;rfl));(case hp => exact (Reps.one (show Kd.M (Kd.int .u8) _ _ _ ((x9_4) % 256) [.int .u8 ((x9_4) % 256)] from rfl) (Reps.none _ _)));intro v157 w34 ho35 hb hg_ hnew_;clear hg_ hnew_;(first|rw [← Ny156.out] at ho35|(simp only [Int.reduceToNat] at ho35;rw [← Ny156.out] at ho35));have n0_:=zm_ (Kd.R_below (by (with_reducible repeat (first|apply Kd.R_alloc|apply Kd.R_drewN|apply Kd.R_drew));exact HO_4.out) hb);have n1_:=zm_ (Kd.R_lower ho35 (below_size zB_));have n2_:=zm_ (below_step zB_ hb);clear HO_4;clear HB;have HO_4:=n0_;have HO158:=n1_;have HB:=n2_;clear n0_ n1_ n2_;clear hb ho35;have hcv36:=own_string (P:=Try.prog) Try.underlying29 Try.underlying5 Try.underlying9 (Kd.own_of_R HO158.out)))
                     go_roundg k4
                     case measure => have:=HK1.out;have:=HK2.out;have:=HK3.out;have:=HK4.out;omega
                     case rel => exact ⟨(x6_4 ++ (strOfNums y156)),(wrap64 (x9_4 + 1)),zV_,zV_,H',⟨by have:=HK1.out;have:=HK2.out;have:=HK3.out;have:=HK4.out;omega⟩,⟨by (with_reducible repeat (first|apply Kd.R_alloc|apply Kd.R_drewN|apply Kd.R_drew));exact HO_4.out⟩,⟨by repeat (first|(with_reducible first|exact HB.out|apply za_|apply zn_|apply zd_)|exact HB.out)⟩⟩
                    ·rw [if_neg c33] at H
                     exact absurd H (by simp)
                   ·rw [if_neg c32] at H
                    have c32b0 : decide (x9_4 ≤ x8_3) = false:=decide_eq_false c32
                    clear c32
                    have H':=zm_ H
                    clear H
                    go_wp2
                    go_roundg k4
                    case measure => have:=HK1.out;have:=HK2.out;have:=HK3.out;have:=HK4.out;omega
                    case rel => exact ⟨(x6_4),(wrap64 (x8_3 + 1)),zV_,zV_,H',⟨by have:=HK1.out;have:=HK2.out;have:=HK3.out;have:=HK4.out;omega⟩,⟨by (with_reducible repeat (first|apply Kd.R_alloc|apply Kd.R_drewN|apply Kd.R_drew));exact HO_4.out⟩,⟨by repeat (first|(with_reducible first|exact HB.out|apply za_|apply zn_|apply zd_)|exact HB.out)⟩⟩
              ·rw [if_neg c24] at H
               exact absurd H (by simp)
             ·rw [if_neg c23] at H
              exact absurd H (by simp)
          ·replace c20:=Bool.eq_false_iff.mpr c20
           subst c20
           have H1 : (spec_SetOf.l1 k2 x4_1 x6_2 (wrap64 (x7_2 + 1))) = some (r1,r2):=by rw [if_neg (show ¬ (false = true) by decide)] at H;exact H
           clear H
           have H:=H1
           clear H1
           have H':=zm_ H
           clear H
           obtain ⟨Ao37,co37,eo37⟩:=Kd.R_slice HO_4.out
           subst eo37
           have p151 : 0 ≤ (x7_2 : Int):=zo_
           have q151 : x7_2 < (x4_1.length : Int):=zo_
           obtain ⟨ad151,e151,hx151_0⟩:=Kd.at_bool (Kd.R_reads' HO_4.out).2.2 x7_2 p151 q151
           (try rw [← Nbq19.out] at hx151_0)
           cases e151
           replace p151:=eq_true p151
           replace q151:=eq_true q151
           go_wp2
           go_roundg k2
           case measure => have:=HK1.out;have:=HK2.out;omega
           case rel => exact ⟨(x6_2),(wrap64 (x7_2 + 1)),zV_,zV_,H',⟨by have:=HK1.out;have:=HK2.out;omega⟩,⟨by (with_reducible repeat (first|apply Kd.R_alloc|apply Kd.R_drewN|apply Kd.R_drew));exact HO_4.out⟩,⟨by repeat (first|(with_reducible first|exact HB.out|apply za_|apply zn_|apply zd_)|exact HB.out)⟩⟩
         ·rw [if_neg c18] at H
          exact absurd H (by simp)
        ·rw [if_neg c17] at H
         exact absurd H (by simp)
       ·rw [if_neg c16] at H
        have c16b0 : decide (x7_2 < 256) = false:=decide_eq_false c16
        clear c16
        replace H:=Option.bind_eq_some_iff.mp H
        obtain ⟨t150,A380,H⟩:=H
        replace H : (if t150 = true then (some (x6_2,true)) else (some ((⟨#[]⟩ : ByteArray),false))) = some (r1,r2):=H
        have A38:=zm_ A380
        clear A380
        by_cases c39 : t150 = true
        ·subst c39
         have H1 : (some (x6_2,true)) = some (r1,r2):=by rw [if_pos rfl] at H;exact H
         clear H
         have H:=H1
         clear H1
         simp only [Option.some.injEq,Prod.mk.injEq] at H
         obtain ⟨rfl,rfl⟩:=H
         go_wp2_with (first|((with_reducible refine gate_callee (f:=13) rfl ?_);refine goesL_ (some 71) rfl rfl Try.func13 (by kernel_rfl) rfl #[.string x6_2] rfl zq_ ?_;(with_reducible refine (spec_SetOk.calls k2 x6_2 true _ A38.out).mono ?_);rintro e w40 ⟨rfl,hb⟩;refine ⟨_,rfl,?_⟩;have n0_:=zm_ (Kd.R_below (by (with_reducible repeat (first|apply Kd.R_alloc|apply Kd.R_drewN|apply Kd.R_drew));exact HO_4.out) hb);have n1_:=zm_ (below_step zB_ hb);clear HO_4;clear HB;have HO_4:=n0_;have HB:=n1_;clear n0_ n1_;(try clear hb)))
         go_ret2
         exact ⟨zE_,by repeat (first|(with_reducible first|exact HB.out|apply za_|apply zn_|apply zd_)|exact HB.out)⟩
        ·replace c39:=Bool.eq_false_iff.mpr c39
         subst c39
         have H1 : (some ((⟨#[]⟩ : ByteArray),false)) = some (r1,r2):=by rw [if_neg (show ¬ (false = true) by decide)] at H;exact H
         clear H
         have H:=H1
         clear H1
         simp only [Option.some.injEq,Prod.mk.injEq] at H
         obtain ⟨rfl,rfl⟩:=H
         go_wp2_with (first|((with_reducible refine gate_callee (f:=13) rfl ?_);refine goesL_ (some 71) rfl rfl Try.func13 (by kernel_rfl) rfl #[.string x6_2] rfl zq_ ?_;(with_reducible refine (spec_SetOk.calls k2 x6_2 false _ A38.out).mono ?_);rintro e w41 ⟨rfl,hb⟩;refine ⟨_,rfl,?_⟩;have n0_:=zm_ (Kd.R_below (by (with_reducible repeat (first|apply Kd.R_alloc|apply Kd.R_drewN|apply Kd.R_drew));exact HO_4.out) hb);have n1_:=zm_ (below_step zB_ hb);clear HO_4;clear HB;have HO_4:=n0_;have HB:=n1_;clear n0_ n1_;(try clear hb)))
         go_ret2
         exact ⟨zE_,by repeat (first|(with_reducible first|exact HB.out|apply za_|apply zn_|apply zd_)|exact HB.out)⟩
 ·rw [if_neg c2] at H
  exact absurd H (by simp)

def spec_JoinSets.j0 : Nat → ByteArray → ByteArray → Bool → Option (ByteArray × Bool)
 |0,_,_,_ => none
 |k + 1,x0,x1,x13 => if x13 = true then (some ((⟨#[]⟩ : ByteArray),false)) else ((spec_SetBytes.f k x0).bind fun t161 => ((spec_SetBytes.f k x1).bind fun t162 => (if t161.size + t162.size ≤ 9223372036854775807 then ((spec_SetOf.f k (t161 ++ t162)).bind fun bt163 => (some (bt163.1,bt163.2))) else (none))))
def spec_JoinSets.f (k : Nat) (a0 : ByteArray) (a1 : ByteArray) : Option (ByteArray × Bool):=(spec_SetOk.f k a0).bind fun t159 => (if t159 = true then ((spec_SetOk.f k a1).bind fun t160 => (spec_JoinSets.j0 k a0 a1 (!t160))) else (spec_JoinSets.j0 k a0 a1 true))
theorem spec_JoinSets.mono_l : ∀ k,(∀ y0 y1 y2,LeO (spec_JoinSets.j0 k y0 y1 y2) (spec_JoinSets.j0 (k + 1) y0 y1 y2))
 |0 => fun _ _ _ r h => by simp [spec_JoinSets.j0] at h
 |k + 1 => by
  have ih0:=spec_JoinSets.mono_l k
  ·intro y0 y1 y2
   unfold spec_JoinSets.j0
   repeat' first
   |(with_reducible exact ih0 _ _ _)
   |(with_reducible exact spec_SetBytes.mono _ _)
   |(with_reducible exact spec_SetOf.mono _ _)
   |(with_reducible exact spec_SetOk.mono _ _)
   |(with_reducible exact LeO.refl _)
   |(with_reducible exact LeO.none _)
   |(with_reducible refine LeO.ite ?_ ?_)
   |(with_reducible refine LeO.bind ?_ (fun _ => ?_))
theorem spec_JoinSets.mono : ∀ a0 a1 k,LeO (spec_JoinSets.f k a0 a1) (spec_JoinSets.f (k + 1) a0 a1):=by
 intro a0 a1 k
 have ih0:=spec_JoinSets.mono_l k
 unfold spec_JoinSets.f
 repeat' first
   |(with_reducible exact ih0 _ _ _)
   |(with_reducible exact spec_SetBytes.mono _ _)
   |(with_reducible exact spec_SetOf.mono _ _)
   |(with_reducible exact spec_SetOk.mono _ _)
   |(with_reducible exact LeO.refl _)
   |(with_reducible exact LeO.none _)
   |(with_reducible refine LeO.ite ?_ ?_)
   |(with_reducible refine LeO.bind ?_ (fun _ => ?_))
set_option maxHeartbeats 8000000 in
set_option maxRecDepth 100000 in
theorem spec_JoinSets.calls (k : Nat) (a0 : ByteArray) (a1 : ByteArray) (r1 : ByteArray) (r2 : Bool) (w : World) (h : spec_JoinSets.f k a0 a1 = some (r1,r2)) :
  Calls Try.prog 21 #[.string a0,.string a1] w fun e w' => e = .returned (.tuple #[.string r1,.bool r2]) ∧ Below w.heap.size w w':=by
 have HB:=zm_ (Below.refl w.heap.size w)
 have H : ((spec_SetOk.f k a0).bind fun t159 => (if t159 = true then ((spec_SetOk.f k a1).bind fun t160 => (spec_JoinSets.j0 k a0 a1 (!t160))) else (spec_JoinSets.j0 k a0 a1 true))) = some (r1,r2):=h
 clear h
 have HC3:=zm_ H
 clear H
 go_enter Try.func21,Try.ntmps21
 go_upto_region 1 with (fail)
 go_cut [13] (fun v13 wc => ∃ (kq : Nat) (x13_2 : Bool),v13 = .bool x13_2 ∧ Aside0 (spec_JoinSets.j0 kq a0 a1 x13_2 = some (r1,r2)) ∧ Aside0 (kq ≤ k) ∧ Aside0 (Below w.heap.size w wc))
 case first =>
  have H:=HC3.out
  clear HC3
  replace H:=Option.bind_eq_some_iff.mp H
  obtain ⟨t159,A40,H⟩:=H
  replace H : (if t159 = true then ((spec_SetOk.f k a1).bind fun t160 => (spec_JoinSets.j0 k a0 a1 (!t160))) else (spec_JoinSets.j0 k a0 a1 true)) = some (r1,r2):=H
  have A4:=zm_ A40
  clear A40
  by_cases c5 : t159 = true
  ·subst c5
   have H1 : ((spec_SetOk.f k a1).bind fun t160 => (spec_JoinSets.j0 k a0 a1 (!t160))) = some (r1,r2):=by rw [if_pos rfl] at H;exact H
   clear H
   have H:=H1
   clear H1
   replace H:=Option.bind_eq_some_iff.mp H
   obtain ⟨t160,A60,H⟩:=H
   replace H : (spec_JoinSets.j0 k a0 a1 (!t160)) = some (r1,r2):=H
   have A6:=zm_ A60
   clear A60
   have H':=zm_ H
   clear H
   go_wp2_with (first|((with_reducible refine gate_callee (f:=13) rfl ?_);refine goesL_ (some 7) rfl rfl Try.func13 (by kernel_rfl) rfl #[.string a0] rfl zq_ ?_;(with_reducible refine (spec_SetOk.calls k a0 true _ A4.out).mono ?_);rintro e w7 ⟨rfl,hb⟩;refine ⟨_,rfl,?_⟩;replace HB:=zm_ (below_step zB_ hb);(try clear hb))|(go_at_call 13;(with_reducible refine (spec_SetOk.calls k a1 t160 _ A6.out).mono ?_);rintro e w8 ⟨rfl,hb⟩;replace HB:=zm_ (below_step zB_ hb);(try clear hb)))
   go_meet
   case rel => exact ⟨_,(!t160),zV_,H',⟨by first|omega|exact Nat.le_refl _⟩,⟨by repeat (first|(with_reducible first|exact HB.out|apply za_|apply zn_|apply zd_)|exact HB.out)⟩⟩
  ·replace c5:=Bool.eq_false_iff.mpr c5
   subst c5
   have H1 : (spec_JoinSets.j0 k a0 a1 true) = some (r1,r2):=by rw [if_neg (show ¬ (false = true) by decide)] at H;exact H
   clear H
   have H:=H1
   clear H1
   have H':=zm_ H
   clear H
   go_wp2_with (first|((with_reducible refine gate_callee (f:=13) rfl ?_);refine goesL_ (some 7) rfl rfl Try.func13 (by kernel_rfl) rfl #[.string a0] rfl zq_ ?_;(with_reducible refine (spec_SetOk.calls k a0 false _ A4.out).mono ?_);rintro e w9 ⟨rfl,hb⟩;refine ⟨_,rfl,?_⟩;replace HB:=zm_ (below_step zB_ hb);(try clear hb)))
   go_meet
   case rel => exact ⟨_,(true),zV_,H',⟨by first|omega|exact Nat.le_refl _⟩,⟨by repeat (first|(with_reducible first|exact HB.out|apply za_|apply zn_|apply zd_)|exact HB.out)⟩⟩
 case rest =>
  clear HC3
  try clear c1
  try clear c2
  try clear p2
  try clear c5
  obtain ⟨kq,x13_2,rfl,HA,HJ2,HB⟩:=hcut
  cases kq with
  |zero => exact absurd HA.out (by simp [spec_JoinSets.j0])
  |succ kj2 =>
   have H:=HA.out
   clear HA
   simp only [spec_JoinSets.j0] at H
   by_cases c10 : x13_2 = true
   ·subst c10
    have H1 : (some ((⟨#[]⟩ : ByteArray),false)) = some (r1,r2):=by rw [if_pos rfl] at H;exact H
    clear H
    have H:=H1
    clear H1
    simp only [Option.some.injEq,Prod.mk.injEq] at H
    obtain ⟨rfl,rfl⟩:=H
    go_wp2
    go_ret2
    exact ⟨zE_,by repeat (first|(with_reducible first|exact HB.out|apply za_|apply zn_|apply zd_)|exact HB.out)⟩
   ·replace c10:=Bool.eq_false_iff.mpr c10
    subst c10
    have H1 : ((spec_SetBytes.f kj2 a0).bind fun t161 => ((spec_SetBytes.f kj2 a1).bind fun t162 => (if t161.size + t162.size ≤ 9223372036854775807 then ((spec_SetOf.f kj2 (t161 ++ t162)).bind fun bt163 => (some (bt163.1,bt163.2))) else (none)))) = some (r1,r2):=by rw [if_neg (show ¬ (false = true) by decide)] at H;exact H
    clear H
    have H:=H1
    clear H1
    replace H:=Option.bind_eq_some_iff.mp H
    obtain ⟨t161,A110,H⟩:=H
    replace H : ((spec_SetBytes.f kj2 a1).bind fun t162 => (if t161.size + t162.size ≤ 9223372036854775807 then ((spec_SetOf.f kj2 (t161 ++ t162)).bind fun bt163 => (some (bt163.1,bt163.2))) else (none))) = some (r1,r2):=H
    have A11:=zm_ A110
    clear A110
    replace H:=Option.bind_eq_some_iff.mp H
    obtain ⟨t162,A120,H⟩:=H
    replace H : (if t161.size + t162.size ≤ 9223372036854775807 then ((spec_SetOf.f kj2 (t161 ++ t162)).bind fun bt163 => (some (bt163.1,bt163.2))) else (none)) = some (r1,r2):=H
    have A12:=zm_ A120
    clear A120
    by_cases c13 : t161.size + t162.size ≤ 9223372036854775807
    ·rw [if_pos c13] at H
     have c13b0:=eq_true c13
     have c13b1 : decide (t161.size + t162.size ≤ 9223372036854775807) = true:=decide_eq_true c13
     try have c13b2 : (9223372036854775807 < t161.size + t162.size) = False:=eq_false (Nat.not_lt.2 c13)
     replace H:=Option.bind_eq_some_iff.mp H
     obtain ⟨⟨t163,t164⟩,A140,H⟩:=H
     replace H : (some (t163,t164)) = some (r1,r2):=H
     have A14:=zm_ A140
     clear A140
     simp only [Option.some.injEq,Prod.mk.injEq] at H
     obtain ⟨rfl,rfl⟩:=H
     go_wp2_with (first|((with_reducible refine gate_callee (f:=17) rfl ?_);refine goesL_ (some 15) rfl rfl Try.func17 (by kernel_rfl) rfl #[.string a0] rfl zq_ ?_;(with_reducible refine (spec_SetBytes.calls kj2 a0 t161 _ A11.out).mono ?_);rintro e w15 ⟨rfl,hb⟩;refine ⟨_,rfl,?_⟩;replace HB:=zm_ (below_step zB_ hb);(try clear hb))|((with_reducible refine gate_callee (f:=17) rfl ?_);refine goesL_ (some 17) rfl rfl Try.func17 (by kernel_rfl) rfl #[.string a1] rfl zq_ ?_;(with_reducible refine (spec_SetBytes.calls kj2 a1 t162 _ A12.out).mono ?_);rintro e w16 ⟨rfl,hb⟩;refine ⟨_,rfl,?_⟩;replace HB:=zm_ (below_step zB_ hb);(try clear hb))|((with_reducible refine gate_callee (f:=19) rfl ?_);refine goesL_ (some 19) rfl rfl Try.func19 (by kernel_rfl) rfl #[.string (t161 ++ t162)] rfl zq_ ?_;(with_reducible refine (spec_SetOf.calls kj2 (t161 ++ t162) t163 t164 _ A14.out).mono ?_);rintro e w17 ⟨rfl,hb⟩;refine ⟨_,rfl,?_⟩;replace HB:=zm_ (below_step zB_ hb);(try clear hb)))
     go_ret2
     exact ⟨zE_,by repeat (first|(with_reducible first|exact HB.out|apply za_|apply zn_|apply zd_)|exact HB.out)⟩
    ·rw [if_neg c13] at H
     exact absurd H (by simp)

end Go.Proofs.Ytbkncnlehlldeaa.MFnSetsMet
