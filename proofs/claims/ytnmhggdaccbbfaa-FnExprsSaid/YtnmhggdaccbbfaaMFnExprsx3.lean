import Derived.Test.YtnmhggdaccbbfaaMFnExprsx0
import Derived.Test.YtnmhggdaccbbfaaMFnExprsx1
namespace Go.Proofs.Ytnmhggdaccbbfaa.MFnExprs
open Go.RowKit Go.Proofs.YtnmhggdaccbbfaaW.PrintWords Go.Proofs.YtnmhggdaccbbfaaW.PrintLast Go.Proofs.YtnmhggdaccbbfaaW.PrintMore
attribute [local go_sem] max2_int min2_int max_two min_two max_three min_three max_four min_four
set_option linter.unusedVariables false
set_option linter.unusedSimpArgs false
theorem zt3_1 {p : Prop} (h : p := by (with_reducible repeat first|refine zl_ ?_ _|refine zr_ ?_|refine zk_ ?_ _);exact BK158.out) : p := h

mutual
def impl_reachedNodes.l0 : Nat → List Bool → Int → List (S34) → Option (List Bool)
 |0,_,_,_ => none
 |k + 1,x3,x4,x159000 => if x4 ≥ 0 then (if 0 ≤ x4 then (if x4 < (x159000.length : Int) then (impl_reachedNodes.l1 k x3 x4 ((rd_T34 x159000 x4).f3) (((rd_T34 x159000 x4).f3).length : Int) 0 x159000) else (none)) else (none)) else (some x3)
def impl_reachedNodes.l1 : Nat → List Bool → Int → List Int → Int → Int → List (S34) → Option (List Bool)
 |0,_,_,_,_,_,_ => none
 |k + 1,x3,x4,x30,x31,x32,x159000 => if x32 < x31 then (if 0 ≤ x32 then (if x32 < (x30.length : Int) then (if 0 ≤ (rd x30 x32) then (if (rd x30 x32) < (x3.length : Int) then (if rdOf false x3 (rd x30 x32) = true then (impl_reachedNodes.l1 k (x3.set ((rd x30 x32) : Int).toNat true) x4 x30 x31 (wrap64 (x32 + 1)) x159000) else (if 0 ≤ x4 then (if x4 < (x3.length : Int) then (impl_reachedNodes.l1 k (x3.set ((rd x30 x32) : Int).toNat (rdOf false x3 x4)) x4 x30 x31 (wrap64 (x32 + 1)) x159000) else (none)) else (none))) else (none)) else (none)) else (none)) else (none)) else (impl_reachedNodes.l0 k x3 (wrap64 (x4 - 1)) x159000)
end
def impl_reachedNodes.f (k : Nat) (l0_0 : List (S34)) : Option (List Bool):=if 0 ≤ (l0_0.length : Int) then (if ((l0_0.length : Int) : Int).toNat ≤ 281474976710656 then ((some (List.replicate ((l0_0.length : Int) : Int).toNat false : List Bool)).bind fun y159 => (if 0 ≤ (wrap64 ((l0_0.length : Int) - 1)) then (if (wrap64 ((l0_0.length : Int) - 1)) < (y159.length : Int) then (impl_reachedNodes.l0 k (y159.set ((wrap64 ((l0_0.length : Int) - 1)) : Int).toNat true) (wrap64 ((l0_0.length : Int) - 1)) l0_0) else (none)) else (none))) else (none)) else (none)
theorem impl_reachedNodes.mono_l : ∀ k,(∀ y0 y1 y2,LeO (impl_reachedNodes.l0 k y0 y1 y2) (impl_reachedNodes.l0 (k + 1) y0 y1 y2)) ∧ (∀ y0 y1 y2 y3 y4 y5,LeO (impl_reachedNodes.l1 k y0 y1 y2 y3 y4 y5) (impl_reachedNodes.l1 (k + 1) y0 y1 y2 y3 y4 y5))
 |0 => ⟨fun _ _ _ r h => by simp [impl_reachedNodes.l0] at h,fun _ _ _ _ _ _ r h => by simp [impl_reachedNodes.l1] at h⟩
 |k + 1 => by
  obtain ⟨ih0,ih1⟩:=impl_reachedNodes.mono_l k
  refine ⟨?_,?_⟩
  ·intro y0 y1 y2
   unfold impl_reachedNodes.l0
   repeat' first
   |(with_reducible exact ih0 _ _ _)
   |(with_reducible exact ih1 _ _ _ _ _ _)
   |(with_reducible exact LeO.refl _)
   |(with_reducible exact LeO.none _)
   |(with_reducible refine LeO.ite ?_ ?_)
   |(with_reducible refine LeO.bind ?_ (fun _ => ?_))
  ·intro y0 y1 y2 y3 y4 y5
   unfold impl_reachedNodes.l1
   repeat' first
   |(with_reducible exact ih0 _ _ _)
   |(with_reducible exact ih1 _ _ _ _ _ _)
   |(with_reducible exact LeO.refl _)
   |(with_reducible exact LeO.none _)
   |(with_reducible refine LeO.ite ?_ ?_)
   |(with_reducible refine LeO.bind ?_ (fun _ => ?_))
theorem impl_reachedNodes.mono : ∀ a0 k,LeO (impl_reachedNodes.f k a0) (impl_reachedNodes.f (k + 1) a0):=by
 intro a0 k
 obtain ⟨ih0,ih1⟩:=impl_reachedNodes.mono_l k
 unfold impl_reachedNodes.f
 repeat' first
   |(with_reducible exact ih0 _ _ _)
   |(with_reducible exact ih1 _ _ _ _ _ _)
   |(with_reducible exact LeO.refl _)
   |(with_reducible exact LeO.none _)
   |(with_reducible refine LeO.ite ?_ ?_)
   |(with_reducible refine LeO.bind ?_ (fun _ => ?_))
set_option maxHeartbeats 8000000 in
set_option maxRecDepth 100000 in
theorem impl_reachedNodes.calls (k : Nat) (A0_0 : Option Addr) (c0_0 : Nat) (l0_0 : List (S34)) (r : List Bool) (w : World) (hr0_0 : Kd.C k34 w A0_0 l0_0.length l0_0) (hc0_0 : l0_0.length ≤ c0_0) (h : impl_reachedNodes.f k l0_0 = some r) :
  Calls Try.prog 44 #[.agg #[.slice A0_0 l0_0.length c0_0]] w fun e w' => ∃ v0_ : Value,e = .returned (v0_) ∧ Kd.R Kd.bool 4 w' w.heap.size (fun _ => True) v0_ r ∧ Below w.heap.size w w':=by
 have hu28:=Try.underlying28
 have HR0_0:=zm_ hr0_0
 have HC0_0:=zm_ hc0_0
 clear hr0_0 hc0_0
 have HB:=zm_ (Below.refl w.heap.size w)
 have H : (if 0 ≤ (l0_0.length : Int) then (if ((l0_0.length : Int) : Int).toNat ≤ 281474976710656 then ((some (List.replicate ((l0_0.length : Int) : Int).toNat false : List Bool)).bind fun y159 => (if 0 ≤ (wrap64 ((l0_0.length : Int) - 1)) then (if (wrap64 ((l0_0.length : Int) - 1)) < (y159.length : Int) then (impl_reachedNodes.l0 k (y159.set ((wrap64 ((l0_0.length : Int) - 1)) : Int).toNat true) (wrap64 ((l0_0.length : Int) - 1)) l0_0) else (none)) else (none))) else (none)) else (none)) = some r:=h
 clear h
 by_cases c2 : 0 ≤ (l0_0.length : Int)
 ·rw [if_pos c2] at H
  have c2b0:=eq_true c2
  have c2b1 : decide (0 ≤ (l0_0.length : Int)) = true:=decide_eq_true c2
  clear c2
  by_cases c3 : ((l0_0.length : Int) : Int).toNat ≤ 281474976710656
  ·rw [if_pos c3] at H
   have c3b0:=eq_true c3
   have c3b1 : decide (((l0_0.length : Int) : Int).toNat ≤ 281474976710656) = true:=decide_eq_true c3
   clear c3
   obtain ⟨y159,hy159⟩ : ∃ y_ : List Bool,y_ = (List.replicate ((l0_0.length : Int) : Int).toNat false):=⟨_,rfl⟩
   replace H : (if 0 ≤ (wrap64 ((l0_0.length : Int) - 1)) then (if (wrap64 ((l0_0.length : Int) - 1)) < (y159.length : Int) then (impl_reachedNodes.l0 k (y159.set ((wrap64 ((l0_0.length : Int) - 1)) : Int).toNat true) (wrap64 ((l0_0.length : Int) - 1)) l0_0) else (none)) else (none)) = some r:=by first|(rw [hy159];with_reducible exact H)|(have H2_:=(Option.bind_some _ _).symm.trans H;rw [hy159];with_reducible exact H2_)|(have H2_:=(Option.bind_some _ _).symm.trans H;with_reducible exact H2_)|with_reducible exact H|(rw [hy159];exact H)|exact H
   have Ny159:=zm_ hy159
   clear hy159
   obtain ⟨ji4,hji4⟩ : ∃ j_ : Int,(wrap64 ((l0_0.length : Int) - 1)) = j_:=⟨_,rfl⟩
   replace H : (if 0 ≤ (ji4) then (if (ji4) < (y159.length : Int) then (impl_reachedNodes.l0 k (y159.set ((ji4) : Int).toNat true) ji4 l0_0) else (none)) else (none)) = some r:=by first|(rw [hji4] at H;exact H)|(simp only [hji4] at H ⊢;exact H)
   have hji4w : (IntKind.i64.wrap ((l0_0.length : Int) - 1)) = ji4:=(i64_w _).trans hji4
   by_cases c5 : 0 ≤ (ji4)
   ·rw [if_pos c5] at H
    have c5b0 : decide (0 ≤ (ji4)) = true:=decide_eq_true c5
    clear c5
    by_cases c6 : (ji4) < (y159.length : Int)
    ·rw [if_pos c6] at H
     have c6b0 : decide ((ji4) < (y159.length : Int)) = true:=decide_eq_true c6
     clear c6
     obtain ⟨y162,hy162⟩ : ∃ y_ : List Bool,y_ = (y159.set ((ji4) : Int).toNat true):=⟨_,rfl⟩
     replace H : (impl_reachedNodes.l0 k y162 ji4 l0_0) = some r:=by first|(rw [hy162];with_reducible exact H)|(have H2_:=(Option.bind_some _ _).symm.trans H;rw [hy162];with_reducible exact H2_)|(have H2_:=(Option.bind_some _ _).symm.trans H;with_reducible exact H2_)|with_reducible exact H|(rw [hy162];exact H)|exact H
     have Ny162:=zm_ hy162
     clear hy162
     have H':=zm_ H
     clear H
     go_enter Try.func44,Try.ntmps44
     go_wp2_with (first|((with_reducible refine gate_dst (N:=1) rfl ?_);refine box_event ?hg (N:=1) ?hd (cs:=#[.slice A0_0 l0_0.length c0_0]) (t:=28) ?hr ?_;(case hd => rfl);(case hg => rfl);(case hr => first|(go_simp;done)|(go_simp;rfl));intro gb158 hg w8 hbox hb;have n0_:=zm_ (below_step zB_ hb);have n1_:=zm_ (hbox);have n2_:=zm_ ((by rw [hg];exact (below_size zB_) : w.heap.size ≤ gb158));have n3_:=zm_ ((by rw [hg];exact (below_size zB_) : w.heap.size ≤ gb158));clear HB;have HB:=n0_;have BK158:=n1_;have GW158:=n2_;have GE158:=n3_;clear n0_ n1_ n2_ n3_;clear hb hbox hg;have hcz9_0 : w8.cell? ⟨gb158,0,none⟩ = some (.slice A0_0 l0_0.length c0_0):=(zc_ BK158.out 0).trans rfl;have hfz9_0:=zf_ BK158.out 0)|((with_reducible refine gate_dst (N:=10) rfl ?_);refine Kd.R_make Kd.bool _ 4 rfl (N:=10) rfl 73 _ _ rfl (l0_0.length : Int) rfl rfl Try.underlying73 (.bool false) 1 info4 rfl (by decide) (by omega) false (ok:=fun _ => True) (okp:=fun _ => True) rfl (fun _ hk => hk) trivial (zo_) (Nat.le_trans (Nat.mul_le_mul_right _ (zo_ : (l0_0.length : Int).toNat ≤ 281474976710656)) (by omega)) (Below.refl _ _) (Nat.le_refl _) ?_;intro v160 w10 ho11 hb hg_ hnew_;clear hg_ hnew_;(first|rw [← Ny159.out] at ho11|(simp only [Int.reduceToNat] at ho11;rw [← Ny159.out] at ho11));have n0_:=zm_ (Kd.R_lower ho11 (below_size (by repeat (first|(with_reducible first|exact HB.out|apply za_|apply zn_|apply zd_|refine zs_ ?_ GE158.out)|exact HB.out))));have n1_:=zm_ (blk_below (g:=gb158) (o:=.cells #[.slice A0_0 l0_0.length c0_0] 28 (0,0)) zt3_1 hb);have n2_:=zm_ (below_step (by repeat (first|(with_reducible first|exact HB.out|apply za_|apply zn_|apply zd_|refine zs_ ?_ GE158.out)|exact HB.out)) hb);clear BK158;clear HB;have HO161:=n0_;have BK158:=n1_;have HB:=n2_;clear n0_ n1_ n2_;clear hb ho11;have hcz12_0 : w10.cell? ⟨gb158,0,none⟩ = some (.slice A0_0 l0_0.length c0_0):=(zc_ BK158.out 0).trans rfl;have hfz12_0:=zf_ BK158.out 0;have p7 : 0 ≤ ((ji4) : Int):=zo_;have q7 : ((ji4) : Int) < ((y159.length : Int) : Int):=zo_;obtain ⟨go7,co7,eo7,gb7,gl7,cl7,HG7⟩:=Kd.R_form HO161.out (by omega);(first|cases eo7|(injection eo7 with ea_ en_ ec_;(first|subst ea_|(injection ea_ with ea_;subst ea_));subst ec_;clear en_));have GB7:=zm_ gb7;have GG7:=zm_ HG7;clear gb7 gl7 HG7;obtain ⟨hx7_0,hf7_0⟩:=Kd.R_celln false HO161.out ((ji4) : Int) p7 q7;replace p7:=eq_true p7;replace q7:=eq_true q7;obtain ⟨hy13_,hz13_⟩:=Kd.R_celln false HO161.out ((ji4) : Int) (zo_) (zo_);have HP13:=Kd.R_putg HO161.out ((ji4) : Int) true)|((with_reducible refine gate_store (t:=4) (p:=16) rfl ?_);refine store_event (t:=4) (p:=16) (v:=?vo_w14) (w1:=(w10.setCell ⟨go7,((ji4) : Int).toNat,none⟩ (.bool true))) ?hg ?ho ?hn ?hr ?_;(case ho => rfl);(case hg => rfl);(case hn => rfl);(case hr => first|(go_simp;done)|(go_simp;rfl));intro w14 hw;have hg : w10.grownBy w14 (some go7):=(by rw [hw];exact HP13.2);have hp_ : Kd.R Kd.bool 4 w14 w.heap.size (fun _ => True) (.slice (some ⟨go7,0,none⟩) y159.length co7) y162:=(by rw [hw,Ny162.out];exact HP13.1);clear HP13;have n0_:=zm_ (blk_grown (g:=gb158) (o:=.cells #[.slice A0_0 l0_0.length c0_0] 28 (0,0)) zt3_1 hg (Kd.R_ne HO161.out BK158.out (by decide)));have n1_:=zm_ (hp_);have n2_:=zm_ ((by rw [hw];exact zs_ (HB.out) GB7.out : Below w.heap.size w w14));clear BK158;clear HO161;clear HB;have BK158:=n0_;have HO161:=n1_;have HB:=n2_;clear n0_ n1_ n2_;clear hg hw hp_;have hcz15_0 : w14.cell? ⟨gb158,0,none⟩ = some (.slice A0_0 l0_0.length c0_0):=(zc_ BK158.out 0).trans rfl;have hfz15_0:=zf_ BK158.out 0))
     go_loopg [4] k (fun kq v4 w' => ∃ (x3_1 : List Bool) (x4_1 : Int),v4 = .int .i64 x4_1 ∧ Aside0 (impl_reachedNodes.l0 kq x3_1 x4_1 l0_0 = some r) ∧ Aside0 (kq ≤ k) ∧ Aside0 (Kd.R Kd.bool 4 w' w.heap.size (fun _ => True) (.slice (some ⟨go7,0,none⟩) y159.length co7) x3_1) ∧ Aside0 (w'.heap[gb158]? = some (.cells #[(.slice A0_0 l0_0.length c0_0)] 28 (0,0))) ∧ Aside0 (Below w.heap.size w w'))
     case atStart => exact ⟨(y162),(ji4),(by first|rfl|(exact congrArg Value.bool (isEmpty_ne _))|(exact congrArg Value.bool (isEmpty_ne' _))|(exact congrArg Value.bool (isEmpty_eq _))|(simp;done)|(simp only [← hji4] <;> (first|rfl|simp))|(simp [*];done)),H',⟨Nat.le_refl _⟩,⟨by (with_reducible repeat (first|apply Kd.R_alloc|apply Kd.R_drewN|apply Kd.R_drew));exact HO161.out⟩,⟨by (with_reducible repeat first|refine zl_ ?_ _|refine zr_ ?_|refine zk_ ?_ _);exact BK158.out⟩,⟨by repeat (first|(with_reducible first|exact HB.out|apply za_|apply zn_|apply zd_|refine zs_ ?_ GE158.out)|exact HB.out)⟩⟩
     case round =>
      clear H'
      try clear c2
      try clear c2b0
      try clear c2b1
      try clear p2
      try clear c3
      try clear c3b0
      try clear c3b1
      try clear c4
      try clear c5
      try clear c5b0
      try clear c6
      try clear c6b0
      try clear p6
      try clear p7
      try clear q7
      try clear hx7
      try clear hf7
      try clear hcz12_0
      try clear hcz15_0
      try clear hcz9_0
      try clear hfz12_0
      try clear hfz15_0
      try clear hfz9_0
      try clear hx7_0
      try clear p7
      try clear q7
      obtain ⟨x3_1,x4_1,rfl,HA,HK1,HO_3,BK158,HB⟩:=hrel
      have hl3_1:=(Kd.R_reads' HO_3.out).1
      rw [hl3_1] at HO_3
      (try simp only [hl3_1])
      (try simp only [hl3_1] at BK158)
      cases gk with
      |zero => exact absurd HA.out (by simp [impl_reachedNodes.l0])
      |succ k1 =>
       have H:=HA.out
       clear HA
       simp only [impl_reachedNodes.l0] at H
       by_cases c16 : x4_1 ≥ 0
       ·rw [if_pos c16] at H
        have c16b0 : decide (0 ≤ x4_1) = true:=decide_eq_true c16
        clear c16
        by_cases c17 : 0 ≤ x4_1
        ·rw [if_pos c17] at H
         have c17b0 : decide (0 ≤ x4_1) = true:=decide_eq_true c17
         clear c17
         by_cases c18 : x4_1 < (l0_0.length : Int)
         ·rw [if_pos c18] at H
          have c18b0 : decide (x4_1 < (l0_0.length : Int)) = true:=decide_eq_true c18
          clear c18
          have H':=zm_ H
          clear H
          have hcz19_0 : wr.cell? ⟨gb158,0,none⟩ = some (.slice A0_0 l0_0.length c0_0):=(zc_ BK158.out 0).trans rfl
          have hfz19_0:=zf_ BK158.out 0
          have p163 : 0 ≤ (x4_1 : Int):=zo_
          have q163 : x4_1 < (l0_0.length : Int):=zo_
          obtain ⟨ad163,A163_3,c163_3,e163,hx163_0,hx163_1,hx163_2,hx163_3,hl163_3,hi163_3⟩:=at_T34 HR0_0.out x4_1 p163 q163
          cases e163
          replace hx163_0:=(HB.out.cell (zb_ w _ hx163_0)).trans hx163_0
          replace hx163_1:=(HB.out.cell (zb_ w _ hx163_1)).trans hx163_1
          replace hx163_2:=(HB.out.cell (zb_ w _ hx163_2)).trans hx163_2
          replace hx163_3:=(HB.out.cell (zb_ w _ hx163_3)).trans hx163_3
          have HR163_3:=zm_ hi163_3
          have HC163_3:=zm_ hl163_3
          clear hi163_3 hl163_3
          replace p163:=eq_true p163
          replace q163:=eq_true q163
          go_wp2
          go_loopg [32] k1 (fun kq v32 w' => ∃ (x3_2 : List Bool) (x32_2 : Int),v32 = .int .i64 x32_2 ∧ Aside0 (impl_reachedNodes.l1 kq x3_2 x4_1 ((rd_T34 l0_0 x4_1).f3) (((rd_T34 l0_0 x4_1).f3).length : Int) x32_2 l0_0 = some r) ∧ Aside0 (kq ≤ k1) ∧ Aside0 (Kd.R Kd.bool 4 w' w.heap.size (fun _ => True) (.slice (some ⟨go7,0,none⟩) x3_1.length co7) x3_2) ∧ Aside0 (w'.heap[gb158]? = some (.cells #[(.slice (some ad163) l0_0.length c0_0)] 28 (0,0))) ∧ Aside0 (Below w.heap.size w w'))
          case atStart => exact ⟨(x3_1),(0),zV_,H',⟨Nat.le_refl _⟩,⟨by (try simp only [hl3_1]);(with_reducible repeat (first|apply Kd.R_alloc|apply Kd.R_drewN|apply Kd.R_drew));exact HO_3.out⟩,⟨by (try simp only [hl3_1]);(with_reducible repeat first|refine zl_ ?_ _|refine zr_ ?_|refine zk_ ?_ _);exact BK158.out⟩,⟨by repeat (first|(with_reducible first|exact HB.out|apply za_|apply zn_|apply zd_|refine zs_ ?_ GE158.out)|exact HB.out)⟩⟩
          case round =>
           clear H'
           try clear c1
           try clear p1
           try clear q1
           try clear hx1
           try clear c2
           try clear c2b0
           try clear c2b1
           try clear p2
           try clear c3
           try clear c3b0
           try clear c3b1
           try clear c4
           try clear c5
           try clear c5b0
           try clear c6
           try clear c6b0
           try clear p6
           try clear p7
           try clear q7
           try clear hx7
           try clear hf7
           try clear c16
           try clear c16b0
           try clear p16
           try clear q16
           try clear hx16
           try clear c17
           try clear c17b0
           try clear c18
           try clear c18b0
           try clear hcz12_0
           try clear hcz15_0
           try clear hcz19_0
           try clear hcz9_0
           try clear hfz12_0
           try clear hfz15_0
           try clear hfz19_0
           try clear hfz9_0
           try clear hx163_0
           try clear hx163_1
           try clear hx163_2
           try clear hx163_3
           try clear hx7_0
           try clear p163
           try clear p2
           try clear p6
           try clear p7
           try clear q163
           try clear q7
           obtain ⟨x3_2,x32_2,rfl,HA,HK2,HO_3,BK158,HB⟩:=hrel
           have hl3_2:=(Kd.R_reads' HO_3.out).1
           rw [hl3_2] at HO_3
           (try simp only [hl3_2])
           (try simp only [hl3_2] at BK158)
           cases gk with
           |zero => exact absurd HA.out (by simp [impl_reachedNodes.l1])
           |succ k2 =>
            have H:=HA.out
            clear HA
            simp only [impl_reachedNodes.l1] at H
            by_cases c20 : x32_2 < (((rd_T34 l0_0 x4_1).f3).length : Int)
            ·rw [if_pos c20] at H
             have c20b0 : decide (x32_2 < (((rd_T34 l0_0 x4_1).f3).length : Int)) = true:=decide_eq_true c20
             clear c20
             by_cases c21 : 0 ≤ x32_2
             ·rw [if_pos c21] at H
              have c21b0 : decide (0 ≤ x32_2) = true:=decide_eq_true c21
              clear c21
              by_cases c22 : x32_2 < (((rd_T34 l0_0 x4_1).f3).length : Int)
              ·rw [if_pos c22] at H
               have c22b0 : decide (x32_2 < (((rd_T34 l0_0 x4_1).f3).length : Int)) = true:=decide_eq_true c22
               clear c22
               by_cases c23 : 0 ≤ (rd ((rd_T34 l0_0 x4_1).f3) x32_2)
               ·rw [if_pos c23] at H
                have c23b0 : decide (0 ≤ (rd ((rd_T34 l0_0 x4_1).f3) x32_2)) = true:=decide_eq_true c23
                clear c23
                by_cases c24 : (rd ((rd_T34 l0_0 x4_1).f3) x32_2) < (x3_2.length : Int)
                ·rw [if_pos c24] at H
                 have c24b0 : decide ((rd ((rd_T34 l0_0 x4_1).f3) x32_2) < (x3_2.length : Int)) = true:=decide_eq_true c24
                 clear c24
                 obtain ⟨bq25,hbq25⟩ : ∃ b_ : Bool,b_ = (rdOf false x3_2 (rd ((rd_T34 l0_0 x4_1).f3) x32_2)):=⟨_,rfl⟩
                 replace H : (if bq25 = true then (impl_reachedNodes.l1 k2 (x3_2.set ((rd ((rd_T34 l0_0 x4_1).f3) x32_2) : Int).toNat true) x4_1 ((rd_T34 l0_0 x4_1).f3) (((rd_T34 l0_0 x4_1).f3).length : Int) (wrap64 (x32_2 + 1)) l0_0) else (if 0 ≤ x4_1 then (if x4_1 < (x3_2.length : Int) then (impl_reachedNodes.l1 k2 (x3_2.set ((rd ((rd_T34 l0_0 x4_1).f3) x32_2) : Int).toNat (rdOf false x3_2 x4_1)) x4_1 ((rd_T34 l0_0 x4_1).f3) (((rd_T34 l0_0 x4_1).f3).length : Int) (wrap64 (x32_2 + 1)) l0_0) else (none)) else (none))) = some r:=by rw [← hbq25] at H;exact H
                 have Nbq25:=zm_ hbq25
                 clear hbq25
                 by_cases c26 : bq25 = true
                 ·subst c26
                  have H1 : (impl_reachedNodes.l1 k2 (x3_2.set ((rd ((rd_T34 l0_0 x4_1).f3) x32_2) : Int).toNat true) x4_1 ((rd_T34 l0_0 x4_1).f3) (((rd_T34 l0_0 x4_1).f3).length : Int) (wrap64 (x32_2 + 1)) l0_0) = some r:=by rw [if_pos rfl] at H;exact H
                  clear H
                  have H:=H1
                  clear H1
                  obtain ⟨y166,hy166⟩ : ∃ y_ : List Bool,y_ = (x3_2.set ((rd ((rd_T34 l0_0 x4_1).f3) x32_2) : Int).toNat true):=⟨_,rfl⟩
                  replace H : (impl_reachedNodes.l1 k2 y166 x4_1 ((rd_T34 l0_0 x4_1).f3) (((rd_T34 l0_0 x4_1).f3).length : Int) (wrap64 (x32_2 + 1)) l0_0) = some r:=by first|(rw [hy166];with_reducible exact H)|(have H2_:=(Option.bind_some _ _).symm.trans H;rw [hy166];with_reducible exact H2_)|(have H2_:=(Option.bind_some _ _).symm.trans H;with_reducible exact H2_)|with_reducible exact H|(rw [hy166];exact H)|exact H
                  have Ny166:=zm_ hy166
                  clear hy166
                  have H':=zm_ H
                  clear H
                  have p164 : 0 ≤ (x32_2 : Int):=zo_
                  have q164 : x32_2 < (((rd_T34 l0_0 x4_1).f3).length : Int):=zo_
                  obtain ⟨ad164,e164,hx164_0⟩:=Kd.at_int HR163_3.out x32_2 p164 q164
                  cases e164
                  replace hx164_0:=(HB.out.cell (zb_ w _ hx164_0)).trans hx164_0
                  replace p164:=eq_true p164
                  replace q164:=eq_true q164
                  have p165 : 0 ≤ ((rd ((rd_T34 l0_0 x4_1).f3) x32_2) : Int):=zo_
                  have q165 : (rd ((rd_T34 l0_0 x4_1).f3) x32_2) < (x3_2.length : Int):=zo_
                  obtain ⟨ad165,e165,hx165_0⟩:=Kd.at_bool (Kd.R_reads' HO_3.out).2.2 (rd ((rd_T34 l0_0 x4_1).f3) x32_2) p165 q165
                  (try rw [← Nbq25.out] at hx165_0)
                  obtain rfl : (⟨go7,0,none⟩ : Addr) = ad165:=(by injection e165)
                  (first|simp only [add_plain] at hx165_0|simp only [add_at] at hx165_0|simp only [Addr.add,Nat.zero_add] at hx165_0|skip)
                  replace p165:=eq_true p165
                  replace q165:=eq_true q165
                  have p27 : 0 ≤ ((rd ((rd_T34 l0_0 x4_1).f3) x32_2) : Int):=zo_
                  have q27 : ((rd ((rd_T34 l0_0 x4_1).f3) x32_2) : Int) < ((x3_2.length : Int) : Int):=zo_
                  obtain ⟨hx27_0,hf27_0⟩:=Kd.R_celln false HO_3.out ((rd ((rd_T34 l0_0 x4_1).f3) x32_2) : Int) p27 q27
                  replace p27:=eq_true p27
                  replace q27:=eq_true q27
                  have HP28:=Kd.R_putg HO_3.out ((rd ((rd_T34 l0_0 x4_1).f3) x32_2) : Int) true
                  go_wp2_with (first|((with_reducible refine gate_store (t:=4) (p:=48) rfl ?_);refine store_event (t:=4) (p:=48) (v:=?vo_w29) (w1:=(wr.setCell ⟨go7,((rd ((rd_T34 l0_0 x4_1).f3) x32_2) : Int).toNat,none⟩ (.bool true))) ?hg ?ho ?hn ?hr ?_;(case ho => rfl);(case hg => rfl);(case hn => rfl);(case hr => first|(go_simp;done)|(go_simp;rfl));intro w29 hw;have hg : wr.grownBy w29 (some go7):=(by rw [hw];exact HP28.2);have hp_ : Kd.R Kd.bool 4 w29 w.heap.size (fun _ => True) (.slice (some ⟨go7,0,none⟩) x3_2.length co7) y166:=(by rw [hw,Ny166.out];exact HP28.1);clear HP28;have n0_:=zm_ (hp_);have n1_:=zm_ (blk_grown (g:=gb158) (o:=.cells #[.slice (some ad163) l0_0.length c0_0] 28 (0,0)) zt3_1 hg (Kd.R_ne HO_3.out BK158.out (by decide)));have n2_:=zm_ ((by rw [hw];exact zs_ (HB.out) GB7.out : Below w.heap.size w w29));clear HO_3;clear BK158;clear HB;have HO_3:=n0_;have BK158:=n1_;have HB:=n2_;clear n0_ n1_ n2_;clear hg hw hp_))
                  (try simp only [← hl3_2])
                  go_roundg k2
                  case measure => have:=HK1.out;have:=HK2.out;omega
                  case rel => exact ⟨(y166),(wrap64 (x32_2 + 1)),zV_,H',⟨by have:=HK1.out;have:=HK2.out;omega⟩,⟨by (try simp only [hl3_1]);(try simp only [hl3_2]);(with_reducible repeat (first|apply Kd.R_alloc|apply Kd.R_drewN|apply Kd.R_drew));exact HO_3.out⟩,⟨by (try simp only [hl3_1]);(try simp only [hl3_2]);(with_reducible repeat first|refine zl_ ?_ _|refine zr_ ?_|refine zk_ ?_ _);exact BK158.out⟩,⟨by repeat (first|(with_reducible first|exact HB.out|apply za_|apply zn_|apply zd_|refine zs_ ?_ GE158.out)|exact HB.out)⟩⟩
                 ·replace c26:=Bool.eq_false_iff.mpr c26
                  subst c26
                  have H1 : (if 0 ≤ x4_1 then (if x4_1 < (x3_2.length : Int) then (impl_reachedNodes.l1 k2 (x3_2.set ((rd ((rd_T34 l0_0 x4_1).f3) x32_2) : Int).toNat (rdOf false x3_2 x4_1)) x4_1 ((rd_T34 l0_0 x4_1).f3) (((rd_T34 l0_0 x4_1).f3).length : Int) (wrap64 (x32_2 + 1)) l0_0) else (none)) else (none)) = some r:=by rw [if_neg (show ¬ (false = true) by decide)] at H;exact H
                  clear H
                  have H:=H1
                  clear H1
                  by_cases c30 : 0 ≤ x4_1
                  ·rw [if_pos c30] at H
                   have c30b0 : decide (0 ≤ x4_1) = true:=decide_eq_true c30
                   clear c30
                   by_cases c31 : x4_1 < (x3_2.length : Int)
                   ·rw [if_pos c31] at H
                    have c31b0 : decide (x4_1 < (x3_2.length : Int)) = true:=decide_eq_true c31
                    clear c31
                    obtain ⟨y168,hy168⟩ : ∃ y_ : List Bool,y_ = (x3_2.set ((rd ((rd_T34 l0_0 x4_1).f3) x32_2) : Int).toNat (rdOf false x3_2 x4_1)):=⟨_,rfl⟩
                    replace H : (impl_reachedNodes.l1 k2 y168 x4_1 ((rd_T34 l0_0 x4_1).f3) (((rd_T34 l0_0 x4_1).f3).length : Int) (wrap64 (x32_2 + 1)) l0_0) = some r:=by first|(rw [hy168];with_reducible exact H)|(have H2_:=(Option.bind_some _ _).symm.trans H;rw [hy168];with_reducible exact H2_)|(have H2_:=(Option.bind_some _ _).symm.trans H;with_reducible exact H2_)|with_reducible exact H|(rw [hy168];exact H)|exact H
                    have Ny168:=zm_ hy168
                    clear hy168
                    have H':=zm_ H
                    clear H
                    have p164 : 0 ≤ (x32_2 : Int):=zo_
                    have q164 : x32_2 < (((rd_T34 l0_0 x4_1).f3).length : Int):=zo_
                    obtain ⟨ad164,e164,hx164_0⟩:=Kd.at_int HR163_3.out x32_2 p164 q164
                    cases e164
                    replace hx164_0:=(HB.out.cell (zb_ w _ hx164_0)).trans hx164_0
                    replace p164:=eq_true p164
                    replace q164:=eq_true q164
                    have p165 : 0 ≤ ((rd ((rd_T34 l0_0 x4_1).f3) x32_2) : Int):=zo_
                    have q165 : (rd ((rd_T34 l0_0 x4_1).f3) x32_2) < (x3_2.length : Int):=zo_
                    obtain ⟨ad165,e165,hx165_0⟩:=Kd.at_bool (Kd.R_reads' HO_3.out).2.2 (rd ((rd_T34 l0_0 x4_1).f3) x32_2) p165 q165
                    (try rw [← Nbq25.out] at hx165_0)
                    obtain rfl : (⟨go7,0,none⟩ : Addr) = ad165:=(by injection e165)
                    (first|simp only [add_plain] at hx165_0|simp only [add_at] at hx165_0|simp only [Addr.add,Nat.zero_add] at hx165_0|skip)
                    replace p165:=eq_true p165
                    replace q165:=eq_true q165
                    have p167 : 0 ≤ (x4_1 : Int):=zo_
                    have q167 : x4_1 < (x3_2.length : Int):=zo_
                    obtain ⟨ad167,e167,hx167_0⟩:=Kd.at_bool (Kd.R_reads' HO_3.out).2.2 x4_1 p167 q167
                    (try rw [← Nbq25.out] at hx167_0)
                    obtain rfl : (⟨go7,0,none⟩ : Addr) = ad167:=(by injection e167)
                    (first|simp only [add_plain] at hx167_0|simp only [add_at] at hx167_0|simp only [Addr.add,Nat.zero_add] at hx167_0|skip)
                    replace p167:=eq_true p167
                    replace q167:=eq_true q167
                    have p32 : 0 ≤ ((rd ((rd_T34 l0_0 x4_1).f3) x32_2) : Int):=zo_
                    have q32 : ((rd ((rd_T34 l0_0 x4_1).f3) x32_2) : Int) < ((x3_2.length : Int) : Int):=zo_
                    obtain ⟨hx32_0,hf32_0⟩:=Kd.R_celln false HO_3.out ((rd ((rd_T34 l0_0 x4_1).f3) x32_2) : Int) p32 q32
                    replace p32:=eq_true p32
                    replace q32:=eq_true q32
                    have HP33:=Kd.R_putg HO_3.out ((rd ((rd_T34 l0_0 x4_1).f3) x32_2) : Int) (rdOf false x3_2 x4_1)
                    go_wp2_with (first|((with_reducible refine gate_store (t:=4) (p:=48) rfl ?_);refine store_event (t:=4) (p:=48) (v:=?vo_w34) (w1:=(wr.setCell ⟨go7,((rd ((rd_T34 l0_0 x4_1).f3) x32_2) : Int).toNat,none⟩ (.bool (rdOf false x3_2 x4_1)))) ?hg ?ho ?hn ?hr ?_;(case ho => rfl);(case hg => rfl);(case hn => rfl);(case hr => first|(go_simp;done)|(go_simp;rfl));intro w34 hw;have hg : wr.grownBy w34 (some go7):=(by rw [hw];exact HP33.2);have hp_ : Kd.R Kd.bool 4 w34 w.heap.size (fun _ => True) (.slice (some ⟨go7,0,none⟩) x3_2.length co7) y168:=(by rw [hw,Ny168.out];exact HP33.1);clear HP33;have n0_:=zm_ (hp_);have n1_:=zm_ (blk_grown (g:=gb158) (o:=.cells #[.slice (some ad163) l0_0.length c0_0] 28 (0,0)) zt3_1 hg (Kd.R_ne HO_3.out BK158.out (by decide)));have n2_:=zm_ ((by rw [hw];exact zs_ (HB.out) GB7.out : Below w.heap.size w w34));clear HO_3;clear BK158;clear HB;have HO_3:=n0_;have BK158:=n1_;have HB:=n2_;clear n0_ n1_ n2_;clear hg hw hp_))
                    (try simp only [← hl3_2])
                    go_roundg k2
                    case measure => have:=HK1.out;have:=HK2.out;omega
                    case rel => exact ⟨(y168),(wrap64 (x32_2 + 1)),zV_,H',⟨by have:=HK1.out;have:=HK2.out;omega⟩,⟨by (try simp only [hl3_1]);(try simp only [hl3_2]);(with_reducible repeat (first|apply Kd.R_alloc|apply Kd.R_drewN|apply Kd.R_drew));exact HO_3.out⟩,⟨by (try simp only [hl3_1]);(try simp only [hl3_2]);(with_reducible repeat first|refine zl_ ?_ _|refine zr_ ?_|refine zk_ ?_ _);exact BK158.out⟩,⟨by repeat (first|(with_reducible first|exact HB.out|apply za_|apply zn_|apply zd_|refine zs_ ?_ GE158.out)|exact HB.out)⟩⟩
                   ·rw [if_neg c31] at H
                    exact absurd H (by simp)
                  ·rw [if_neg c30] at H
                   exact absurd H (by simp)
                ·rw [if_neg c24] at H
                 exact absurd H (by simp)
               ·rw [if_neg c23] at H
                exact absurd H (by simp)
              ·rw [if_neg c22] at H
               exact absurd H (by simp)
             ·rw [if_neg c21] at H
              exact absurd H (by simp)
            ·rw [if_neg c20] at H
             have c20b0 : decide (x32_2 < (((rd_T34 l0_0 x4_1).f3).length : Int)) = false:=decide_eq_false c20
             clear c20
             have H':=zm_ H
             clear H
             go_wp2
             (try simp only [← hl3_1,← hl3_2])
             go_roundg k2
             case measure => have:=HK1.out;have:=HK2.out;omega
             case rel => exact ⟨(x3_2),(wrap64 (x4_1 - 1)),zV_,H',⟨by have:=HK1.out;have:=HK2.out;omega⟩,⟨by (try simp only [hl3_1]);(try simp only [hl3_2]);(with_reducible repeat (first|apply Kd.R_alloc|apply Kd.R_drewN|apply Kd.R_drew));exact HO_3.out⟩,⟨by (try simp only [hl3_1]);(try simp only [hl3_2]);(with_reducible repeat first|refine zl_ ?_ _|refine zr_ ?_|refine zk_ ?_ _);exact BK158.out⟩,⟨by repeat (first|(with_reducible first|exact HB.out|apply za_|apply zn_|apply zd_|refine zs_ ?_ GE158.out)|exact HB.out)⟩⟩
         ·rw [if_neg c18] at H
          exact absurd H (by simp)
        ·rw [if_neg c17] at H
         exact absurd H (by simp)
       ·rw [if_neg c16] at H
        have c16b0 : decide (0 ≤ x4_1) = false:=decide_eq_false c16
        clear c16
        obtain rfl:=Option.some.inj H
        go_wp2
        go_ret
        exact ⟨_,by first|rfl|(simp [errW_none,errW_some] <;> rfl)|(simp only [← hji4];first|rfl|(simp [errW_none,errW_some] <;> rfl))|(simp [*,errW_none,errW_some] <;> rfl),by (with_reducible repeat (first|apply Kd.R_alloc|apply Kd.R_drewN|apply Kd.R_drew));exact HO_3.out,by repeat (first|(with_reducible first|exact HB.out|apply za_|apply zn_|apply zd_|refine zs_ ?_ GE158.out)|exact HB.out)⟩
    ·rw [if_neg c6] at H
     exact absurd H (by simp)
   ·rw [if_neg c5] at H
    exact absurd H (by simp)
  ·rw [if_neg c3] at H
   exact absurd H (by simp)
 ·rw [if_neg c2] at H
  exact absurd H (by simp)

def impl_EnvGet.l0 : Nat → ByteArray → List (S87) → Int → Int → Option (Int × Bool)
 |0,_,_,_,_ => none
 |k + 1,x1,x8,x9,x10 => if x10 < x9 then (if 0 ≤ x10 then (if x10 < (x8.length : Int) then (if ((rd_T87 x8 x10).f0).toList = x1.toList then (some ((rd_T87 x8 x10).f1,true)) else (impl_EnvGet.l0 k x1 x8 x9 (wrap64 (x10 + 1)))) else (none)) else (none)) else (some (0,false))
def impl_EnvGet.f (k : Nat) (l0 : List (S87)) (a1 : ByteArray) : Option (Int × Bool):=impl_EnvGet.l0 k a1 l0 (l0.length : Int) 0
theorem impl_EnvGet.mono_l : ∀ k,(∀ y0 y1 y2 y3,LeO (impl_EnvGet.l0 k y0 y1 y2 y3) (impl_EnvGet.l0 (k + 1) y0 y1 y2 y3))
 |0 => fun _ _ _ _ r h => by simp [impl_EnvGet.l0] at h
 |k + 1 => by
  have ih0:=impl_EnvGet.mono_l k
  ·intro y0 y1 y2 y3
   unfold impl_EnvGet.l0
   repeat' first
   |(with_reducible exact ih0 _ _ _ _)
   |(with_reducible exact LeO.refl _)
   |(with_reducible exact LeO.none _)
   |(with_reducible refine LeO.ite ?_ ?_)
   |(with_reducible refine LeO.bind ?_ (fun _ => ?_))
theorem impl_EnvGet.mono : ∀ a0 a1 k,LeO (impl_EnvGet.f k a0 a1) (impl_EnvGet.f (k + 1) a0 a1):=by
 intro a0 a1 k
 have ih0:=impl_EnvGet.mono_l k
 unfold impl_EnvGet.f
 repeat' first
   |(with_reducible exact ih0 _ _ _ _)
   |(with_reducible exact LeO.refl _)
   |(with_reducible exact LeO.none _)
   |(with_reducible refine LeO.ite ?_ ?_)
   |(with_reducible refine LeO.bind ?_ (fun _ => ?_))
set_option maxHeartbeats 8000000 in
set_option maxRecDepth 100000 in
theorem impl_EnvGet.calls (k : Nat) (A0 : Option Addr) (c0 : Nat) (l0 : List (S87)) (a1 : ByteArray) (r1 : Int) (r2 : Bool) (w : World) (hr0 : Kd.C k87 w A0 l0.length l0) (hc0 : l0.length ≤ c0) (h : impl_EnvGet.f k l0 a1 = some (r1,r2)) :
  Calls Try.prog 75 #[.slice A0 l0.length c0,.string a1] w fun e w' => e = .returned (.tuple #[.int .i64 r1,.bool r2]) ∧ Below w.heap.size w w':=by
 have hu87:=Try.underlying87
 have HR0:=zm_ hr0
 have HC0:=zm_ hc0
 clear hr0 hc0
 have HB:=zm_ (Below.refl w.heap.size w)
 have H : (impl_EnvGet.l0 k a1 l0 (l0.length : Int) 0) = some (r1,r2):=h
 clear h
 have H':=zm_ H
 clear H
 go_enter Try.func75,Try.ntmps75
 go_wp2
 go_loopg [10] k (fun kq v10 w' => ∃ (x10_1 : Int),v10 = .int .i64 x10_1 ∧ Aside0 (impl_EnvGet.l0 kq a1 l0 (l0.length : Int) x10_1 = some (r1,r2)) ∧ Aside0 (kq ≤ k) ∧ Aside0 (Below w.heap.size w w'))
 case atStart => exact ⟨(0),zV_,H',⟨Nat.le_refl _⟩,⟨by repeat (first|(with_reducible first|exact HB.out|apply za_|apply zn_|apply zd_)|exact HB.out)⟩⟩
 case round =>
  clear H'
  try clear p2
  obtain ⟨x10_1,rfl,HA,HK1,HB⟩:=hrel
  cases gk with
  |zero => exact absurd HA.out (by simp [impl_EnvGet.l0])
  |succ k1 =>
   have H:=HA.out
   clear HA
   simp only [impl_EnvGet.l0] at H
   by_cases c3 : x10_1 < (l0.length : Int)
   ·rw [if_pos c3] at H
    have c3b0 : decide (x10_1 < (l0.length : Int)) = true:=decide_eq_true c3
    clear c3
    by_cases c4 : 0 ≤ x10_1
    ·rw [if_pos c4] at H
     have c4b0 : decide (0 ≤ x10_1) = true:=decide_eq_true c4
     clear c4
     by_cases c5 : x10_1 < (l0.length : Int)
     ·rw [if_pos c5] at H
      have c5b0 : decide (x10_1 < (l0.length : Int)) = true:=decide_eq_true c5
      clear c5
      by_cases c6 : ((rd_T87 l0 x10_1).f0).toList = a1.toList
      ·rw [if_pos c6] at H
       have c6b0 : (((rd_T87 l0 x10_1).f0).toList == a1.toList) = true:=beq_iff_eq.mpr c6
       have c6b1 : (((rd_T87 l0 x10_1).f0).toList != a1.toList) = false:=bne_eq_false_iff_eq.mpr c6
       clear c6
       simp only [Option.some.injEq,Prod.mk.injEq] at H
       obtain ⟨rfl,rfl⟩:=H
       have p169 : 0 ≤ (x10_1 : Int):=zo_
       have q169 : x10_1 < (l0.length : Int):=zo_
       obtain ⟨ad169,e169,hx169_0,hx169_1⟩:=at_T87 HR0.out x10_1 p169 q169
       cases e169
       replace hx169_0:=(HB.out.cell (zb_ w _ hx169_0)).trans hx169_0
       replace hx169_1:=(HB.out.cell (zb_ w _ hx169_1)).trans hx169_1
       replace p169:=eq_true p169
       replace q169:=eq_true q169
       go_wp2_with (first|((with_reducible refine gate_dst (N:=7) rfl ?_);refine box_event ?hg (N:=7) ?hd (cs:=#[.string (⟨#[]⟩ : ByteArray),.int .i64 0]) (t:=87) ?hr ?_;(case hd => rfl);(case hg => rfl);(case hr => first|(go_simp;done)|(go_simp;rfl));intro gb170 hg w7 hbox hb;have n0_:=zm_ (below_step zB_ hb);have n1_:=zm_ (hbox);have n2_:=zm_ ((by rw [hg];exact (below_size zB_) : w.heap.size ≤ gb170));have n3_:=zm_ ((by rw [hg];exact (below_size zB_) : w.heap.size ≤ gb170));clear HB;have HB:=n0_;have BK170:=n1_;have GW170:=n2_;have GE170:=n3_;clear n0_ n1_ n2_ n3_;clear hb hbox hg;have hcz8_0 : w7.cell? ⟨gb170,0,none⟩ = some (.string (⟨#[]⟩ : ByteArray)):=(zc_ BK170.out 0).trans rfl;have hcz8_1 : w7.cell? ⟨gb170,1,none⟩ = some (.int .i64 0):=(zc_ BK170.out 1).trans rfl;have hfz8_0:=zf_ BK170.out 0;have hfz8_1:=zf_ BK170.out 1))
       go_ret2
       exact ⟨zE_,by repeat (first|(with_reducible first|exact HB.out|apply za_|apply zn_|apply zd_|refine zs_ ?_ GE170.out)|exact HB.out)⟩
      ·rw [if_neg c6] at H
       have c6b0 : (((rd_T87 l0 x10_1).f0).toList == a1.toList) = false:=beq_eq_false_iff_ne.mpr c6
       have c6b1 : (((rd_T87 l0 x10_1).f0).toList != a1.toList) = true:=bne_iff_ne.mpr c6
       have H':=zm_ H
       clear H
       have p169 : 0 ≤ (x10_1 : Int):=zo_
       have q169 : x10_1 < (l0.length : Int):=zo_
       obtain ⟨ad169,e169,hx169_0,hx169_1⟩:=at_T87 HR0.out x10_1 p169 q169
       cases e169
       replace hx169_0:=(HB.out.cell (zb_ w _ hx169_0)).trans hx169_0
       replace hx169_1:=(HB.out.cell (zb_ w _ hx169_1)).trans hx169_1
       replace p169:=eq_true p169
       replace q169:=eq_true q169
       go_wp2_with (first|((with_reducible refine gate_dst (N:=7) rfl ?_);refine box_event ?hg (N:=7) ?hd (cs:=#[.string (⟨#[]⟩ : ByteArray),.int .i64 0]) (t:=87) ?hr ?_;(case hd => rfl);(case hg => rfl);(case hr => first|(go_simp;done)|(go_simp;rfl));intro gb170 hg w9 hbox hb;have n0_:=zm_ (below_step zB_ hb);have n1_:=zm_ (hbox);have n2_:=zm_ ((by rw [hg];exact (below_size zB_) : w.heap.size ≤ gb170));have n3_:=zm_ ((by rw [hg];exact (below_size zB_) : w.heap.size ≤ gb170));clear HB;have HB:=n0_;have BK170:=n1_;have GW170:=n2_;have GE170:=n3_;clear n0_ n1_ n2_ n3_;clear hb hbox hg;have hcz10_0 : w9.cell? ⟨gb170,0,none⟩ = some (.string (⟨#[]⟩ : ByteArray)):=(zc_ BK170.out 0).trans rfl;have hcz10_1 : w9.cell? ⟨gb170,1,none⟩ = some (.int .i64 0):=(zc_ BK170.out 1).trans rfl;have hfz10_0:=zf_ BK170.out 0;have hfz10_1:=zf_ BK170.out 1))
       go_roundg k1
       case measure => have:=HK1.out;omega
       case rel => exact ⟨(wrap64 (x10_1 + 1)),zV_,H',⟨by have:=HK1.out;omega⟩,⟨by repeat (first|(with_reducible first|exact HB.out|apply za_|apply zn_|apply zd_|refine zs_ ?_ GE170.out)|exact HB.out)⟩⟩
     ·rw [if_neg c5] at H
      exact absurd H (by simp)
    ·rw [if_neg c4] at H
     exact absurd H (by simp)
   ·rw [if_neg c3] at H
    have c3b0 : decide (x10_1 < (l0.length : Int)) = false:=decide_eq_false c3
    clear c3
    simp only [Option.some.injEq,Prod.mk.injEq] at H
    obtain ⟨rfl,rfl⟩:=H
    go_wp2
    go_ret2
    exact ⟨zE_,by repeat (first|(with_reducible first|exact HB.out|apply za_|apply zn_|apply zd_)|exact HB.out)⟩

def impl_flag.f (a0 : Bool) : Option (Int):=if a0 = true then (some 1) else (some 0)
set_option maxHeartbeats 8000000 in
set_option maxRecDepth 100000 in
theorem impl_flag.calls (a0 : Bool) (r : Int) (w : World) (h : impl_flag.f a0 = some r) :
  Calls Try.prog 94 #[.bool a0] w fun e w' => e = .returned (.int .i64 r) ∧ Drawn0 w w':=by
 have H : (if a0 = true then (some 1) else (some 0)) = some r:=h
 clear h
 by_cases c2 : a0 = true
 ·subst c2
  have H1 : (some 1) = some r:=by rw [if_pos rfl] at H;exact H
  clear H
  have H:=H1
  clear H1
  obtain rfl:=Option.some.inj H
  go_enter Try.func94,Try.ntmps94
  go_wp2
  go_ret
  exact ⟨by first|rfl|(simp;done)|(simp [*];done),by repeat (first|exact Drawn0.refl _|apply Drawn0.step)⟩
 ·replace c2:=Bool.eq_false_iff.mpr c2
  subst c2
  have H1 : (some 0) = some r:=by rw [if_neg (show ¬ (false = true) by decide)] at H;exact H
  clear H
  have H:=H1
  clear H1
  obtain rfl:=Option.some.inj H
  go_enter Try.func94,Try.ntmps94
  go_wp2
  go_ret
  exact ⟨by first|rfl|(simp;done)|(simp [*];done),by repeat (first|exact Drawn0.refl _|apply Drawn0.step)⟩

def impl_reckon.f (a0 : Int) (a1 : Int) (a2 : Int) : Option (Int × Bool):=if a0 = 4 then (some (wrap64 (a1 + a2),true)) else (if a0 = 5 then (some (wrap64 (a1 - a2),true)) else (if a0 = 6 then (some (wrap64 (a1 * a2),true)) else (if a0 = 8 then ((impl_flag.f (decide (a1 < a2))).bind fun t171 => (some (t171,true))) else (if a0 = 9 then ((impl_flag.f (a1 == a2)).bind fun t172 => (some (t172,true))) else (if a0 = 10 then (if a1 = 0 then ((impl_flag.f false).bind fun t173 => (some (t173,true))) else ((impl_flag.f (a2 != 0)).bind fun t174 => (some (t174,true)))) else (if a0 = 11 then ((impl_flag.f (a1 == 0)).bind fun t175 => (some (t175,true))) else (if a2 = 0 then (some (0,false)) else (some (wrap64 (Int.tdiv a1 a2),true)))))))))
set_option maxHeartbeats 8000000 in
set_option maxRecDepth 100000 in
theorem impl_reckon.calls (a0 : Int) (a1 : Int) (a2 : Int) (r1 : Int) (r2 : Bool) (w : World) (h : impl_reckon.f a0 a1 a2 = some (r1,r2)) :
  Calls Try.prog 76 #[.int .i64 a0,.int .i64 a1,.int .i64 a2] w fun e w' => e = .returned (.tuple #[.int .i64 r1,.bool r2]) ∧ Drawn0 w w':=by
 have H : (if a0 = 4 then (some (wrap64 (a1 + a2),true)) else (if a0 = 5 then (some (wrap64 (a1 - a2),true)) else (if a0 = 6 then (some (wrap64 (a1 * a2),true)) else (if a0 = 8 then ((impl_flag.f (decide (a1 < a2))).bind fun t171 => (some (t171,true))) else (if a0 = 9 then ((impl_flag.f (a1 == a2)).bind fun t172 => (some (t172,true))) else (if a0 = 10 then (if a1 = 0 then ((impl_flag.f false).bind fun t173 => (some (t173,true))) else ((impl_flag.f (a2 != 0)).bind fun t174 => (some (t174,true)))) else (if a0 = 11 then ((impl_flag.f (a1 == 0)).bind fun t175 => (some (t175,true))) else (if a2 = 0 then (some (0,false)) else (some (wrap64 (Int.tdiv a1 a2),true)))))))))) = some (r1,r2):=h
 clear h
 by_cases c4 : a0 = 4
 ·rw [if_pos c4] at H
  have c4b0 : (a0 == 4) = true:=beq_iff_eq.mpr c4
  have c4b1 : (a0 != 4) = false:=bne_eq_false_iff_eq.mpr c4
  clear c4
  simp only [Option.some.injEq,Prod.mk.injEq] at H
  obtain ⟨rfl,rfl⟩:=H
  go_enter Try.func76,Try.ntmps76
  go_wp2
  go_ret2
  exact ⟨by first|rfl|(simp;done)|(simp [*];done),by repeat (first|exact Drawn0.refl _|apply Drawn0.step)⟩
 ·rw [if_neg c4] at H
  have c4b0 : (a0 == 4) = false:=beq_eq_false_iff_ne.mpr c4
  have c4b1 : (a0 != 4) = true:=bne_iff_ne.mpr c4
  by_cases c5 : a0 = 5
  ·rw [if_pos c5] at H
   have c5b0 : (a0 == 5) = true:=beq_iff_eq.mpr c5
   have c5b1 : (a0 != 5) = false:=bne_eq_false_iff_eq.mpr c5
   clear c5
   simp only [Option.some.injEq,Prod.mk.injEq] at H
   obtain ⟨rfl,rfl⟩:=H
   go_enter Try.func76,Try.ntmps76
   go_wp2
   go_ret2
   exact ⟨by first|rfl|(simp;done)|(simp [*];done),by repeat (first|exact Drawn0.refl _|apply Drawn0.step)⟩
  ·rw [if_neg c5] at H
   have c5b0 : (a0 == 5) = false:=beq_eq_false_iff_ne.mpr c5
   have c5b1 : (a0 != 5) = true:=bne_iff_ne.mpr c5
   by_cases c6 : a0 = 6
   ·rw [if_pos c6] at H
    have c6b0 : (a0 == 6) = true:=beq_iff_eq.mpr c6
    have c6b1 : (a0 != 6) = false:=bne_eq_false_iff_eq.mpr c6
    clear c6
    simp only [Option.some.injEq,Prod.mk.injEq] at H
    obtain ⟨rfl,rfl⟩:=H
    go_enter Try.func76,Try.ntmps76
    go_wp2
    go_ret2
    exact ⟨by first|rfl|(simp;done)|(simp [*];done),by repeat (first|exact Drawn0.refl _|apply Drawn0.step)⟩
   ·rw [if_neg c6] at H
    have c6b0 : (a0 == 6) = false:=beq_eq_false_iff_ne.mpr c6
    have c6b1 : (a0 != 6) = true:=bne_iff_ne.mpr c6
    by_cases c7 : a0 = 8
    ·rw [if_pos c7] at H
     have c7b0 : (a0 == 8) = true:=beq_iff_eq.mpr c7
     have c7b1 : (a0 != 8) = false:=bne_eq_false_iff_eq.mpr c7
     clear c7
     replace H:=Option.bind_eq_some_iff.mp H
     obtain ⟨t171,A80,H⟩:=H
     replace H : (some (t171,true)) = some (r1,r2):=H
     have A8:=zm_ A80
     clear A80
     simp only [Option.some.injEq,Prod.mk.injEq] at H
     obtain ⟨rfl,rfl⟩:=H
     go_enter Try.func76,Try.ntmps76
     go_wp2_with (first|((with_reducible refine gate_callee (f:=94) rfl ?_);refine goesL_ (some 29) rfl rfl Try.func94 (by kernel_rfl) rfl #[.bool (decide (a1 < a2))] rfl zq_ ?_;(with_reducible refine (impl_flag.calls (decide (a1 < a2)) t171 _ A8.out).mono ?_);rintro e w' ⟨rfl,⟨nd,rfl⟩⟩;refine ⟨_,rfl,?_⟩))
     go_ret2
     exact ⟨by first|rfl|(simp;done)|(simp [*];done),by repeat (first|exact Drawn0.refl _|apply Drawn0.step)⟩
    ·rw [if_neg c7] at H
     have c7b0 : (a0 == 8) = false:=beq_eq_false_iff_ne.mpr c7
     have c7b1 : (a0 != 8) = true:=bne_iff_ne.mpr c7
     by_cases c9 : a0 = 9
     ·rw [if_pos c9] at H
      have c9b0 : (a0 == 9) = true:=beq_iff_eq.mpr c9
      have c9b1 : (a0 != 9) = false:=bne_eq_false_iff_eq.mpr c9
      clear c9
      replace H:=Option.bind_eq_some_iff.mp H
      obtain ⟨t172,A100,H⟩:=H
      replace H : (some (t172,true)) = some (r1,r2):=H
      have A10:=zm_ A100
      clear A100
      simp only [Option.some.injEq,Prod.mk.injEq] at H
      obtain ⟨rfl,rfl⟩:=H
      go_enter Try.func76,Try.ntmps76
      go_wp2_with (first|((with_reducible refine gate_callee (f:=94) rfl ?_);refine goesL_ (some 35) rfl rfl Try.func94 (by kernel_rfl) rfl #[.bool (a1 == a2)] rfl zq_ ?_;(with_reducible refine (impl_flag.calls (a1 == a2) t172 _ A10.out).mono ?_);rintro e w' ⟨rfl,⟨nd,rfl⟩⟩;refine ⟨_,rfl,?_⟩))
      go_ret2
      exact ⟨by first|rfl|(simp;done)|(simp [*];done),by repeat (first|exact Drawn0.refl _|apply Drawn0.step)⟩
     ·rw [if_neg c9] at H
      have c9b0 : (a0 == 9) = false:=beq_eq_false_iff_ne.mpr c9
      have c9b1 : (a0 != 9) = true:=bne_iff_ne.mpr c9
      by_cases c11 : a0 = 10
      ·rw [if_pos c11] at H
       have c11b0 : (a0 == 10) = true:=beq_iff_eq.mpr c11
       have c11b1 : (a0 != 10) = false:=bne_eq_false_iff_eq.mpr c11
       clear c11
       by_cases c12 : a1 = 0
       ·rw [if_pos c12] at H
        have c12b0 : (a1 == 0) = true:=beq_iff_eq.mpr c12
        have c12b1 : (a1 != 0) = false:=bne_eq_false_iff_eq.mpr c12
        clear c12
        replace H:=Option.bind_eq_some_iff.mp H
        obtain ⟨t173,A130,H⟩:=H
        replace H : (some (t173,true)) = some (r1,r2):=H
        have A13:=zm_ A130
        clear A130
        simp only [Option.some.injEq,Prod.mk.injEq] at H
        obtain ⟨rfl,rfl⟩:=H
        go_enter Try.func76,Try.ntmps76
        go_wp2_with (first|((with_reducible refine gate_callee (f:=94) rfl ?_);refine goesL_ (some 44) rfl rfl Try.func94 (by kernel_rfl) rfl #[.bool false] rfl zq_ ?_;(with_reducible refine (impl_flag.calls false t173 _ A13.out).mono ?_);rintro e w' ⟨rfl,⟨nd,rfl⟩⟩;refine ⟨_,rfl,?_⟩))
        go_ret2
        exact ⟨by first|rfl|(simp;done)|(simp [*];done),by repeat (first|exact Drawn0.refl _|apply Drawn0.step)⟩
       ·rw [if_neg c12] at H
        have c12b0 : (a1 == 0) = false:=beq_eq_false_iff_ne.mpr c12
        have c12b1 : (a1 != 0) = true:=bne_iff_ne.mpr c12
        replace H:=Option.bind_eq_some_iff.mp H
        obtain ⟨t174,A140,H⟩:=H
        replace H : (some (t174,true)) = some (r1,r2):=H
        have A14:=zm_ A140
        clear A140
        simp only [Option.some.injEq,Prod.mk.injEq] at H
        obtain ⟨rfl,rfl⟩:=H
        go_enter Try.func76,Try.ntmps76
        go_wp2_with (first|((with_reducible refine gate_callee (f:=94) rfl ?_);refine goesL_ (some 44) rfl rfl Try.func94 (by kernel_rfl) rfl #[.bool (a2 != 0)] rfl zq_ ?_;(with_reducible refine (impl_flag.calls (a2 != 0) t174 _ A14.out).mono ?_);rintro e w' ⟨rfl,⟨nd,rfl⟩⟩;refine ⟨_,rfl,?_⟩))
        go_ret2
        exact ⟨by first|rfl|(simp;done)|(simp [*];done),by repeat (first|exact Drawn0.refl _|apply Drawn0.step)⟩
      ·rw [if_neg c11] at H
       have c11b0 : (a0 == 10) = false:=beq_eq_false_iff_ne.mpr c11
       have c11b1 : (a0 != 10) = true:=bne_iff_ne.mpr c11
       by_cases c15 : a0 = 11
       ·rw [if_pos c15] at H
        have c15b0 : (a0 == 11) = true:=beq_iff_eq.mpr c15
        have c15b1 : (a0 != 11) = false:=bne_eq_false_iff_eq.mpr c15
        clear c15
        replace H:=Option.bind_eq_some_iff.mp H
        obtain ⟨t175,A160,H⟩:=H
        replace H : (some (t175,true)) = some (r1,r2):=H
        have A16:=zm_ A160
        clear A160
        simp only [Option.some.injEq,Prod.mk.injEq] at H
        obtain ⟨rfl,rfl⟩:=H
        go_enter Try.func76,Try.ntmps76
        go_wp2_with (first|((with_reducible refine gate_callee (f:=94) rfl ?_);refine goesL_ (some 49) rfl rfl Try.func94 (by kernel_rfl) rfl #[.bool (a1 == 0)] rfl zq_ ?_;(with_reducible refine (impl_flag.calls (a1 == 0) t175 _ A16.out).mono ?_);rintro e w' ⟨rfl,⟨nd,rfl⟩⟩;refine ⟨_,rfl,?_⟩))
        go_ret2
        exact ⟨by first|rfl|(simp;done)|(simp [*];done),by repeat (first|exact Drawn0.refl _|apply Drawn0.step)⟩
       ·rw [if_neg c15] at H
        have c15b0 : (a0 == 11) = false:=beq_eq_false_iff_ne.mpr c15
        have c15b1 : (a0 != 11) = true:=bne_iff_ne.mpr c15
        by_cases c17 : a2 = 0
        ·rw [if_pos c17] at H
         have c17b0 : (a2 == 0) = true:=beq_iff_eq.mpr c17
         have c17b1 : (a2 != 0) = false:=bne_eq_false_iff_eq.mpr c17
         clear c17
         simp only [Option.some.injEq,Prod.mk.injEq] at H
         obtain ⟨rfl,rfl⟩:=H
         go_enter Try.func76,Try.ntmps76
         go_wp2
         go_ret2
         exact ⟨by first|rfl|(simp;done)|(simp [*];done),by repeat (first|exact Drawn0.refl _|apply Drawn0.step)⟩
        ·rw [if_neg c17] at H
         have c17b0 : (a2 == 0) = false:=beq_eq_false_iff_ne.mpr c17
         have c17b1 : (a2 != 0) = true:=bne_iff_ne.mpr c17
         simp only [Option.some.injEq,Prod.mk.injEq] at H
         obtain ⟨rfl,rfl⟩:=H
         go_enter Try.func76,Try.ntmps76
         go_wp2
         go_ret2
         exact ⟨by first|rfl|(simp;done)|(simp [*];done),by repeat (first|exact Drawn0.refl _|apply Drawn0.step)⟩

def impl_evalNode.f (k : Nat) (a0_0 : Int) (a0_1 : Int) (a0_2 : ByteArray) (l0_3 : List Int) (l1 : List Int) (l2 : List (S87)) (a3 : Int) : Option (Int × Bool):=if a0_0 = 1 then (some (a0_1,true)) else (if a0_0 = 2 then ((impl_EnvGet.f k l2 a0_2).bind fun bt177 => (some (bt177.1,bt177.2))) else (if a0_0 = 3 then (some (a3,true)) else (if 0 < (l0_3.length : Int) then (if 0 ≤ (rd l0_3 0) then (if (rd l0_3 0) < (l1.length : Int) then (if 0 ≤ (wrap64 ((l0_3.length : Int) - 1)) then (if (wrap64 ((l0_3.length : Int) - 1)) < (l0_3.length : Int) then (if 0 ≤ (rd l0_3 (wrap64 ((l0_3.length : Int) - 1))) then (if (rd l0_3 (wrap64 ((l0_3.length : Int) - 1))) < (l1.length : Int) then ((impl_reckon.f a0_0 (rd l1 (rd l0_3 0)) (rd l1 (rd l0_3 (wrap64 ((l0_3.length : Int) - 1))))).bind fun bt183 => (some (bt183.1,bt183.2))) else (none)) else (none)) else (none)) else (none)) else (none)) else (none)) else (none))))
theorem impl_evalNode.mono : ∀ a0 a1 a2 a3 a4 a5 a6 k,LeO (impl_evalNode.f k a0 a1 a2 a3 a4 a5 a6) (impl_evalNode.f (k + 1) a0 a1 a2 a3 a4 a5 a6):=by
 intro a0 a1 a2 a3 a4 a5 a6 k
 unfold impl_evalNode.f
 repeat' first
   |(with_reducible exact impl_EnvGet.mono _ _ _)
   |(with_reducible exact LeO.refl _)
   |(with_reducible exact LeO.none _)
   |(with_reducible refine LeO.ite ?_ ?_)
   |(with_reducible refine LeO.bind ?_ (fun _ => ?_))
set_option maxHeartbeats 8000000 in
set_option maxRecDepth 100000 in
theorem impl_evalNode.calls (k : Nat) (a0_0 : Int) (a0_1 : Int) (a0_2 : ByteArray) (A0_3 : Option Addr) (c0_3 : Nat) (l0_3 : List Int) (A1 : Option Addr) (c1 : Nat) (l1 : List Int) (A2 : Option Addr) (c2 : Nat) (l2 : List (S87)) (a3 : Int) (r1 : Int) (r2 : Bool) (w : World) (hr0_3 : Kd.C (Kd.int .i64) w A0_3 l0_3.length l0_3) (hc0_3 : l0_3.length ≤ c0_3) (hr1 : Kd.C (Kd.int .i64) w A1 l1.length l1) (hc1 : l1.length ≤ c1) (hr2 : Kd.C k87 w A2 l2.length l2) (hc2 : l2.length ≤ c2) (h : impl_evalNode.f k a0_0 a0_1 a0_2 l0_3 l1 l2 a3 = some (r1,r2)) :
  Calls Try.prog 45 #[.agg #[.int .i64 a0_0,.int .i64 a0_1,.string a0_2,.slice A0_3 l0_3.length c0_3],.slice A1 l1.length c1,.slice A2 l2.length c2,.int .i64 a3] w fun e w' => e = .returned (.tuple #[.int .i64 r1,.bool r2]) ∧ Below w.heap.size w w':=by
 have hu34:=Try.underlying34
 have HR0_3:=zm_ hr0_3
 have HC0_3:=zm_ hc0_3
 clear hr0_3 hc0_3
 have HR1:=zm_ hr1
 have HC1:=zm_ hc1
 clear hr1 hc1
 have HR2:=zm_ hr2
 have HC2:=zm_ hc2
 clear hr2 hc2
 have HB:=zm_ (Below.refl w.heap.size w)
 have H : (if a0_0 = 1 then (some (a0_1,true)) else (if a0_0 = 2 then ((impl_EnvGet.f k l2 a0_2).bind fun bt177 => (some (bt177.1,bt177.2))) else (if a0_0 = 3 then (some (a3,true)) else (if 0 < (l0_3.length : Int) then (if 0 ≤ (rd l0_3 0) then (if (rd l0_3 0) < (l1.length : Int) then (if 0 ≤ (wrap64 ((l0_3.length : Int) - 1)) then (if (wrap64 ((l0_3.length : Int) - 1)) < (l0_3.length : Int) then (if 0 ≤ (rd l0_3 (wrap64 ((l0_3.length : Int) - 1))) then (if (rd l0_3 (wrap64 ((l0_3.length : Int) - 1))) < (l1.length : Int) then ((impl_reckon.f a0_0 (rd l1 (rd l0_3 0)) (rd l1 (rd l0_3 (wrap64 ((l0_3.length : Int) - 1))))).bind fun bt183 => (some (bt183.1,bt183.2))) else (none)) else (none)) else (none)) else (none)) else (none)) else (none)) else (none))))) = some (r1,r2):=h
 clear h
 by_cases c5 : a0_0 = 1
 ·rw [if_pos c5] at H
  have c5b0 : (a0_0 == 1) = true:=beq_iff_eq.mpr c5
  have c5b1 : (a0_0 != 1) = false:=bne_eq_false_iff_eq.mpr c5
  clear c5
  simp only [Option.some.injEq,Prod.mk.injEq] at H
  obtain ⟨rfl,rfl⟩:=H
  go_enter Try.func45,Try.ntmps45
  have tk_ : True:=trivial
  repeat ((first|go_quiet (fail)|clear tk_);try go_wp2_with (first|((with_reducible refine gate_dst (N:=4) rfl ?_);refine box_event ?hg (N:=4) ?hd (cs:=#[.int .i64 a0_0,.int .i64 a0_1,.string a0_2,.slice A0_3 l0_3.length c0_3]) (t:=34) ?hr ?_;(case hd => rfl);(case hg => rfl);(case hr => first|(go_simp;done)|(go_simp;rfl));intro gb176 hg w6 hbox hb;have n0_:=zm_ (below_step zB_ hb);have n1_:=zm_ (hbox);have n2_:=zm_ ((by rw [hg];exact (below_size zB_) : w.heap.size ≤ gb176));have n3_:=zm_ ((by rw [hg];exact (below_size zB_) : w.heap.size ≤ gb176));clear HB;have HB:=n0_;have BK176:=n1_;have GW176:=n2_;have GE176:=n3_;clear n0_ n1_ n2_ n3_;clear hb hbox hg;have hcz7_0 : w6.cell? ⟨gb176,0,none⟩ = some (.int .i64 a0_0):=(zc_ BK176.out 0).trans rfl;have hcz7_1 : w6.cell? ⟨gb176,1,none⟩ = some (.int .i64 a0_1):=(zc_ BK176.out 1).trans rfl;have hcz7_2 : w6.cell? ⟨gb176,2,none⟩ = some (.string a0_2):=(zc_ BK176.out 2).trans rfl;have hcz7_3 : w6.cell? ⟨gb176,3,none⟩ = some (.slice A0_3 l0_3.length c0_3):=(zc_ BK176.out 3).trans rfl;have hfz7_0:=zf_ BK176.out 0;have hfz7_1:=zf_ BK176.out 1;have hfz7_2:=zf_ BK176.out 2;have hfz7_3:=zf_ BK176.out 3)))
  go_ret2
  exact ⟨zE_,by repeat (first|(with_reducible first|exact HB.out|apply za_|apply zn_|apply zd_|refine zs_ ?_ GE176.out)|exact HB.out)⟩
 ·rw [if_neg c5] at H
  have c5b0 : (a0_0 == 1) = false:=beq_eq_false_iff_ne.mpr c5
  have c5b1 : (a0_0 != 1) = true:=bne_iff_ne.mpr c5
  by_cases c8 : a0_0 = 2
  ·rw [if_pos c8] at H
   have c8b0 : (a0_0 == 2) = true:=beq_iff_eq.mpr c8
   have c8b1 : (a0_0 != 2) = false:=bne_eq_false_iff_eq.mpr c8
   clear c8
   replace H:=Option.bind_eq_some_iff.mp H
   obtain ⟨⟨t177,t178⟩,A90,H⟩:=H
   replace H : (some (t177,t178)) = some (r1,r2):=H
   have A9:=zm_ A90
   clear A90
   simp only [Option.some.injEq,Prod.mk.injEq] at H
   obtain ⟨rfl,rfl⟩:=H
   go_enter Try.func45,Try.ntmps45
   have tk_ : True:=trivial
   repeat ((first|go_quiet (first|(go_at_call 75;(with_reducible refine (impl_EnvGet.calls k _ _ l2 a0_2 t177 t178 _ ?side1 ?side2 A9.out).mono ?_);(case side1 => repeat (first|exact (Kd.C_below HR2.out HB.out)|(with_reducible refine Kd.C_alloc ?_ _)|(with_reducible refine Kd.C_drewN ?_ _)|(with_reducible refine Kd.C_drew ?_)));(case side2 => exact HC2.out);rintro e w12 ⟨rfl,hb⟩;have n0_:=zm_ (blk_below (g:=gb176) (o:=.cells #[.int .i64 a0_0,.int .i64 a0_1,.string a0_2,.slice A0_3 l0_3.length c0_3] 34 (0,0)) (by (with_reducible repeat first|refine zl_ ?_ _|refine zr_ ?_|refine zk_ ?_ _);exact BK176.out) hb);have n1_:=zm_ (below_step (by repeat (first|(with_reducible first|exact HB.out|apply za_|apply zn_|apply zd_|refine zs_ ?_ GE176.out)|exact HB.out)) hb);clear BK176;clear HB;have BK176:=n0_;have HB:=n1_;clear n0_ n1_;(try clear hb)))|clear tk_);try go_wp2_with (first|((with_reducible refine gate_dst (N:=4) rfl ?_);refine box_event ?hg (N:=4) ?hd (cs:=#[.int .i64 a0_0,.int .i64 a0_1,.string a0_2,.slice A0_3 l0_3.length c0_3]) (t:=34) ?hr ?_;(case hd => rfl);(case hg => rfl);(case hr => first|(go_simp;done)|(go_simp;rfl));intro gb176 hg w10 hbox hb;have n0_:=zm_ (below_step zB_ hb);have n1_:=zm_ (hbox);have n2_:=zm_ ((by rw [hg];exact (below_size zB_) : w.heap.size ≤ gb176));have n3_:=zm_ ((by rw [hg];exact (below_size zB_) : w.heap.size ≤ gb176));clear HB;have HB:=n0_;have BK176:=n1_;have GW176:=n2_;have GE176:=n3_;clear n0_ n1_ n2_ n3_;clear hb hbox hg;have hcz11_0 : w10.cell? ⟨gb176,0,none⟩ = some (.int .i64 a0_0):=(zc_ BK176.out 0).trans rfl;have hcz11_1 : w10.cell? ⟨gb176,1,none⟩ = some (.int .i64 a0_1):=(zc_ BK176.out 1).trans rfl;have hcz11_2 : w10.cell? ⟨gb176,2,none⟩ = some (.string a0_2):=(zc_ BK176.out 2).trans rfl;have hcz11_3 : w10.cell? ⟨gb176,3,none⟩ = some (.slice A0_3 l0_3.length c0_3):=(zc_ BK176.out 3).trans rfl;have hfz11_0:=zf_ BK176.out 0;have hfz11_1:=zf_ BK176.out 1;have hfz11_2:=zf_ BK176.out 2;have hfz11_3:=zf_ BK176.out 3)|(go_at_call 75;(with_reducible refine (impl_EnvGet.calls k _ _ l2 a0_2 t177 t178 _ ?side1 ?side2 A9.out).mono ?_);(case side1 => repeat (first|exact (Kd.C_below HR2.out HB.out)|(with_reducible refine Kd.C_alloc ?_ _)|(with_reducible refine Kd.C_drewN ?_ _)|(with_reducible refine Kd.C_drew ?_)));(case side2 => exact HC2.out);rintro e w12 ⟨rfl,hb⟩;have n0_:=zm_ (blk_below (g:=gb176) (o:=.cells #[.int .i64 a0_0,.int .i64 a0_1,.string a0_2,.slice A0_3 l0_3.length c0_3] 34 (0,0)) (by (with_reducible repeat first|refine zl_ ?_ _|refine zr_ ?_|refine zk_ ?_ _);exact BK176.out) hb);have n1_:=zm_ (below_step (by repeat (first|(with_reducible first|exact HB.out|apply za_|apply zn_|apply zd_|refine zs_ ?_ GE176.out)|exact HB.out)) hb);clear BK176;clear HB;have BK176:=n0_;have HB:=n1_;clear n0_ n1_;(try clear hb))))
   go_ret2
   exact ⟨zE_,by repeat (first|(with_reducible first|exact HB.out|apply za_|apply zn_|apply zd_|refine zs_ ?_ GE176.out)|exact HB.out)⟩
  ·rw [if_neg c8] at H
   have c8b0 : (a0_0 == 2) = false:=beq_eq_false_iff_ne.mpr c8
   have c8b1 : (a0_0 != 2) = true:=bne_iff_ne.mpr c8
   by_cases c13 : a0_0 = 3
   ·rw [if_pos c13] at H
    have c13b0 : (a0_0 == 3) = true:=beq_iff_eq.mpr c13
    have c13b1 : (a0_0 != 3) = false:=bne_eq_false_iff_eq.mpr c13
    clear c13
    simp only [Option.some.injEq,Prod.mk.injEq] at H
    obtain ⟨rfl,rfl⟩:=H
    go_enter Try.func45,Try.ntmps45
    have tk_ : True:=trivial
    repeat ((first|go_quiet (fail)|clear tk_);try go_wp2_with (first|((with_reducible refine gate_dst (N:=4) rfl ?_);refine box_event ?hg (N:=4) ?hd (cs:=#[.int .i64 a0_0,.int .i64 a0_1,.string a0_2,.slice A0_3 l0_3.length c0_3]) (t:=34) ?hr ?_;(case hd => rfl);(case hg => rfl);(case hr => first|(go_simp;done)|(go_simp;rfl));intro gb176 hg w14 hbox hb;have n0_:=zm_ (below_step zB_ hb);have n1_:=zm_ (hbox);have n2_:=zm_ ((by rw [hg];exact (below_size zB_) : w.heap.size ≤ gb176));have n3_:=zm_ ((by rw [hg];exact (below_size zB_) : w.heap.size ≤ gb176));clear HB;have HB:=n0_;have BK176:=n1_;have GW176:=n2_;have GE176:=n3_;clear n0_ n1_ n2_ n3_;clear hb hbox hg;have hcz15_0 : w14.cell? ⟨gb176,0,none⟩ = some (.int .i64 a0_0):=(zc_ BK176.out 0).trans rfl;have hcz15_1 : w14.cell? ⟨gb176,1,none⟩ = some (.int .i64 a0_1):=(zc_ BK176.out 1).trans rfl;have hcz15_2 : w14.cell? ⟨gb176,2,none⟩ = some (.string a0_2):=(zc_ BK176.out 2).trans rfl;have hcz15_3 : w14.cell? ⟨gb176,3,none⟩ = some (.slice A0_3 l0_3.length c0_3):=(zc_ BK176.out 3).trans rfl;have hfz15_0:=zf_ BK176.out 0;have hfz15_1:=zf_ BK176.out 1;have hfz15_2:=zf_ BK176.out 2;have hfz15_3:=zf_ BK176.out 3)))
    go_ret2
    exact ⟨zE_,by repeat (first|(with_reducible first|exact HB.out|apply za_|apply zn_|apply zd_|refine zs_ ?_ GE176.out)|exact HB.out)⟩
   ·rw [if_neg c13] at H
    have c13b0 : (a0_0 == 3) = false:=beq_eq_false_iff_ne.mpr c13
    have c13b1 : (a0_0 != 3) = true:=bne_iff_ne.mpr c13
    by_cases c16 : 0 < (l0_3.length : Int)
    ·rw [if_pos c16] at H
     have c16b0 : decide (0 < (l0_3.length : Int)) = true:=decide_eq_true c16
     have c16b1 : decide (0 < l0_3.length) = true:=decide_eq_true (by omega)
     clear c16
     by_cases c17 : 0 ≤ (rd l0_3 0)
     ·rw [if_pos c17] at H
      have c17b0 : decide (0 ≤ (rd l0_3 0)) = true:=decide_eq_true c17
      clear c17
      by_cases c18 : (rd l0_3 0) < (l1.length : Int)
      ·rw [if_pos c18] at H
       have c18b0 : decide ((rd l0_3 0) < (l1.length : Int)) = true:=decide_eq_true c18
       clear c18
       obtain ⟨ji19,hji19⟩ : ∃ j_ : Int,(wrap64 ((l0_3.length : Int) - 1)) = j_:=⟨_,rfl⟩
       replace H : (if 0 ≤ (ji19) then (if (ji19) < (l0_3.length : Int) then (if 0 ≤ (rd l0_3 (ji19)) then (if (rd l0_3 (ji19)) < (l1.length : Int) then ((impl_reckon.f a0_0 (rd l1 (rd l0_3 0)) (rd l1 (rd l0_3 (ji19)))).bind fun bt183 => (some (bt183.1,bt183.2))) else (none)) else (none)) else (none)) else (none)) = some (r1,r2):=by first|(rw [hji19] at H;exact H)|(simp only [hji19] at H ⊢;exact H)
       have hji19w : (IntKind.i64.wrap ((l0_3.length : Int) - 1)) = ji19:=(i64_w _).trans hji19
       by_cases c20 : 0 ≤ (ji19)
       ·rw [if_pos c20] at H
        have c20b0 : decide (0 ≤ (ji19)) = true:=decide_eq_true c20
        clear c20
        by_cases c21 : (ji19) < (l0_3.length : Int)
        ·rw [if_pos c21] at H
         have c21b0 : decide ((ji19) < (l0_3.length : Int)) = true:=decide_eq_true c21
         clear c21
         by_cases c22 : 0 ≤ (rd l0_3 (ji19))
         ·rw [if_pos c22] at H
          have c22b0 : decide (0 ≤ (rd l0_3 (ji19))) = true:=decide_eq_true c22
          clear c22
          by_cases c23 : (rd l0_3 (ji19)) < (l1.length : Int)
          ·rw [if_pos c23] at H
           have c23b0 : decide ((rd l0_3 (ji19)) < (l1.length : Int)) = true:=decide_eq_true c23
           clear c23
           replace H:=Option.bind_eq_some_iff.mp H
           obtain ⟨⟨t183,t184⟩,A240,H⟩:=H
           replace H : (some (t183,t184)) = some (r1,r2):=H
           have A24:=zm_ A240
           clear A240
           simp only [Option.some.injEq,Prod.mk.injEq] at H
           obtain ⟨rfl,rfl⟩:=H
           go_enter Try.func45,Try.ntmps45
           have tk_ : True:=trivial
           repeat ((first|go_quiet (first|(go_at_call 76;(with_reducible refine (impl_reckon.calls a0_0 (rd l1 (rd l0_3 0)) (rd l1 (rd l0_3 (ji19))) t183 t184 _ A24.out).mono ?_);rintro e w' ⟨rfl,⟨nd,rfl⟩⟩;(try first|exact ⟨rfl,_,zw_ _ _ _⟩|exact ⟨rfl,_,Eq.trans (zw_ _ _ _) (congrArg (World.drewN _) (Nat.add_assoc _ _ _))⟩)))|clear tk_);try go_wp2_with (first|((with_reducible refine gate_dst (N:=4) rfl ?_);refine box_event ?hg (N:=4) ?hd (cs:=#[.int .i64 a0_0,.int .i64 a0_1,.string a0_2,.slice A0_3 l0_3.length c0_3]) (t:=34) ?hr ?_;(case hd => rfl);(case hg => rfl);(case hr => first|(go_simp;done)|(go_simp;rfl));intro gb176 hg w25 hbox hb;have n0_:=zm_ (below_step zB_ hb);have n1_:=zm_ (hbox);have n2_:=zm_ ((by rw [hg];exact (below_size zB_) : w.heap.size ≤ gb176));have n3_:=zm_ ((by rw [hg];exact (below_size zB_) : w.heap.size ≤ gb176));clear HB;have HB:=n0_;have BK176:=n1_;have GW176:=n2_;have GE176:=n3_;clear n0_ n1_ n2_ n3_;clear hb hbox hg;have hcz26_0 : w25.cell? ⟨gb176,0,none⟩ = some (.int .i64 a0_0):=(zc_ BK176.out 0).trans rfl;have hcz26_1 : w25.cell? ⟨gb176,1,none⟩ = some (.int .i64 a0_1):=(zc_ BK176.out 1).trans rfl;have hcz26_2 : w25.cell? ⟨gb176,2,none⟩ = some (.string a0_2):=(zc_ BK176.out 2).trans rfl;have hcz26_3 : w25.cell? ⟨gb176,3,none⟩ = some (.slice A0_3 l0_3.length c0_3):=(zc_ BK176.out 3).trans rfl;have hfz26_0:=zf_ BK176.out 0;have hfz26_1:=zf_ BK176.out 1;have hfz26_2:=zf_ BK176.out 2;have hfz26_3:=zf_ BK176.out 3;have p179 : 0 ≤ (0 : Int):=(by omega);have q179 : 0 < (l0_3.length : Int):=zo_;obtain ⟨ad179,e179,hx179_0⟩:=Kd.at_int HR0_3.out 0 p179 q179;cases e179;have qi179 : (0 < l0_3.length) = True:=eq_true (by omega);(try rw [show ((0 : Int)).toNat = 0 from rfl] at hx179_0);(try rw [Addr.add_zero'] at hx179_0);replace hx179_0:=(HB.out.cell (zb_ w _ hx179_0)).trans hx179_0;replace p179:=eq_true p179;replace q179:=eq_true q179;have p180 : 0 ≤ ((rd l0_3 0) : Int):=zo_;have q180 : (rd l0_3 0) < (l1.length : Int):=zo_;obtain ⟨ad180,e180,hx180_0⟩:=Kd.at_int HR1.out (rd l0_3 0) p180 q180;cases e180;replace hx180_0:=(HB.out.cell (zb_ w _ hx180_0)).trans hx180_0;replace p180:=eq_true p180;replace q180:=eq_true q180;have p181 : 0 ≤ ((ji19) : Int):=zo_;have q181 : (ji19) < (l0_3.length : Int):=zo_;obtain ⟨ad181,e181,hx181_0⟩:=Kd.at_int HR0_3.out (ji19) p181 q181;obtain rfl : ad179 = ad181:=(by injection e181);replace hx181_0:=(HB.out.cell (zb_ w _ hx181_0)).trans hx181_0;replace p181:=eq_true p181;replace q181:=eq_true q181;have p182 : 0 ≤ ((rd l0_3 (ji19)) : Int):=zo_;have q182 : (rd l0_3 (ji19)) < (l1.length : Int):=zo_;obtain ⟨ad182,e182,hx182_0⟩:=Kd.at_int HR1.out (rd l0_3 (ji19)) p182 q182;obtain rfl : ad180 = ad182:=(by injection e182);replace hx182_0:=(HB.out.cell (zb_ w _ hx182_0)).trans hx182_0;replace p182:=eq_true p182;replace q182:=eq_true q182)|(go_at_call 76;(with_reducible refine (impl_reckon.calls a0_0 (rd l1 (rd l0_3 0)) (rd l1 (rd l0_3 (ji19))) t183 t184 _ A24.out).mono ?_);rintro e w' ⟨rfl,⟨nd,rfl⟩⟩;(try first|exact ⟨rfl,_,zw_ _ _ _⟩|exact ⟨rfl,_,Eq.trans (zw_ _ _ _) (congrArg (World.drewN _) (Nat.add_assoc _ _ _))⟩))))
           go_ret2
           exact ⟨by first|rfl|(simp [errW_none,errW_some] <;> rfl)|(simp only [← hji19];first|rfl|(simp [errW_none,errW_some] <;> rfl))|(simp [*,errW_none,errW_some] <;> rfl),by repeat (first|(with_reducible first|exact HB.out|apply za_|apply zn_|apply zd_|refine zs_ ?_ GE176.out)|exact HB.out)⟩
          ·rw [if_neg c23] at H
           exact absurd H (by simp)
         ·rw [if_neg c22] at H
          exact absurd H (by simp)
        ·rw [if_neg c21] at H
         exact absurd H (by simp)
       ·rw [if_neg c20] at H
        exact absurd H (by simp)
      ·rw [if_neg c18] at H
       exact absurd H (by simp)
     ·rw [if_neg c17] at H
      exact absurd H (by simp)
    ·rw [if_neg c16] at H
     exact absurd H (by simp)

def impl_isNum.f (a0 : Int) : Option (Bool):=(impl_within.f a0 (-9999) 9999).bind fun t185 => (some t185)
set_option maxHeartbeats 8000000 in
set_option maxRecDepth 100000 in
theorem impl_isNum.calls (a0 : Int) (r : Bool) (w : World) (h : impl_isNum.f a0 = some r) :
  Calls Try.prog 46 #[.int .i64 a0] w fun e w' => e = .returned (.bool r) ∧ Drawn0 w w':=by
 have H : ((impl_within.f a0 (-9999) 9999).bind fun t185 => (some t185)) = some r:=h
 clear h
 replace H:=Option.bind_eq_some_iff.mp H
 obtain ⟨t185,A20,H⟩:=H
 replace H : (some t185) = some r:=H
 have A2:=zm_ A20
 clear A20
 obtain rfl:=Option.some.inj H
 go_enter Try.func46,Try.ntmps46
 go_wp2_with (first|((with_reducible refine gate_callee (f:=49) rfl ?_);refine goesL_ (some 4) rfl rfl Try.func49 (by kernel_rfl) rfl #[.int .i64 a0,.int .i64 (-9999),.int .i64 9999] rfl zq_ ?_;(with_reducible refine (impl_within.calls a0 (-9999) 9999 t185 _ A2.out).mono ?_);rintro e w' ⟨rfl,⟨nd,rfl⟩⟩;refine ⟨_,rfl,?_⟩))
 go_ret
 exact ⟨by first|rfl|(simp;done)|(simp [*];done),by repeat (first|exact Drawn0.refl _|apply Drawn0.step)⟩

end Go.Proofs.Ytnmhggdaccbbfaa.MFnExprs
