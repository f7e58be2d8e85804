import Derived.Test.YtkbgmojomgelbaaMFnExactTreeTextx0
import Derived.Test.YtkbgmojomgelbaaMFnExactTreeTextx3
namespace Go.Proofs.Ytkbgmojomgelbaa.MFnExactTreeText
open Go.RowKit Go.Proofs.YtkbgmojomgelbaaW.PrintWords Go.Proofs.YtkbgmojomgelbaaW.PrintLast Go.Proofs.YtkbgmojomgelbaaW.PrintMore
attribute [local go_sem] max2_int min2_int max_two min_two max_three min_three max_four min_four
set_option linter.unusedVariables false
set_option linter.unusedSimpArgs false

def laws_toExNodeS.l0 : Nat → List (S130) → List (S131) → Int → Option ((List (S131)))
 |0,_,_,_ => none
 |k + 1,x0,x3,x4 => if x4 < (x0.length : Int) then (if 0 ≤ x4 then ((laws_toExNode.f k ((rd_T130 x0 x4).f0) ((rd_T130 x0 x4).f1) ((rd_T130 x0 x4).f2) ((rd_T130 x0 x4).f3)).bind fun bt171 => (if x4 < (x3.length : Int) then (laws_toExNodeS.l0 k x0 (x3.set (x4 : Int).toNat (⟨bt171.1,bt171.2.1,bt171.2.2.1,bt171.2.2.2⟩ : S131)) (wrap64 (x4 + 1))) else (none))) else (none)) else (some x3)
def laws_toExNodeS.f (k : Nat) (l0 : List (S130)) : Option ((List (S131))):=if 0 ≤ (l0.length : Int) then (if ((l0.length : Int) : Int).toNat ≤ 5026338869833 then (laws_toExNodeS.l0 k l0 (List.replicate ((l0.length : Int) : Int).toNat z131) 0) else (none)) else (none)
theorem laws_toExNodeS.mono_l : ∀ k,(∀ y0 y1 y2,LeO (laws_toExNodeS.l0 k y0 y1 y2) (laws_toExNodeS.l0 (k + 1) y0 y1 y2))
 |0 => fun _ _ _ r h => by simp [laws_toExNodeS.l0] at h
 |k + 1 => by
  have ih0:=laws_toExNodeS.mono_l k
  ·intro y0 y1 y2
   unfold laws_toExNodeS.l0
   repeat' first
   |(with_reducible exact ih0 _ _ _)
   |(with_reducible exact laws_toExNode.mono _ _ _ _ _)
   |(with_reducible exact LeO.refl _)
   |(with_reducible exact LeO.none _)
   |(with_reducible refine LeO.ite ?_ ?_)
   |(with_reducible refine LeO.bind ?_ (fun _ => ?_))
theorem laws_toExNodeS.mono : ∀ a0 k,LeO (laws_toExNodeS.f k a0) (laws_toExNodeS.f (k + 1) a0):=by
 intro a0 k
 have ih0:=laws_toExNodeS.mono_l k
 unfold laws_toExNodeS.f
 repeat' first
   |(with_reducible exact ih0 _ _ _)
   |(with_reducible exact laws_toExNode.mono _ _ _ _ _)
   |(with_reducible exact LeO.refl _)
   |(with_reducible exact LeO.none _)
   |(with_reducible refine LeO.ite ?_ ?_)
   |(with_reducible refine LeO.bind ?_ (fun _ => ?_))
set_option maxHeartbeats 8000000 in
set_option maxRecDepth 100000 in
theorem laws_toExNodeS.calls (k : Nat) (A0 : Option Addr) (c0 : Nat) (l0 : List (S130)) (r : List (S131)) (w : World) (hr0 : Kd.C k130 w A0 l0.length l0) (hc0 : l0.length ≤ c0) (h : laws_toExNodeS.f k l0 = some r) :
  Calls Try.prog 61 #[.slice A0 l0.length c0] w fun e w' => ∃ v0_ : Value,e = .returned (v0_) ∧ Kd.S k131 131 w' w.heap.size (fun _ => True) v0_ r ∧ Below w.heap.size w w':=by
 have hu130:=Try.underlying130
 have hu131:=Try.underlying131
 have HR0:=zm_ hr0
 have HC0:=zm_ hc0
 clear hr0 hc0
 have HB:=zm_ (Below.refl w.heap.size w)
 have H : (if 0 ≤ (l0.length : Int) then (if ((l0.length : Int) : Int).toNat ≤ 5026338869833 then (laws_toExNodeS.l0 k l0 (List.replicate ((l0.length : Int) : Int).toNat z131) 0) else (none)) else (none)) = some r:=h
 clear h
 by_cases c2 : 0 ≤ (l0.length : Int)
 ·rw [if_pos c2] at H
  have c2b0:=eq_true c2
  have c2b1 : decide (0 ≤ (l0.length : Int)) = true:=decide_eq_true c2
  clear c2
  by_cases c3 : ((l0.length : Int) : Int).toNat ≤ 5026338869833
  ·rw [if_pos c3] at H
   have c3b0:=eq_true c3
   have c3b1 : decide (((l0.length : Int) : Int).toNat ≤ 5026338869833) = true:=decide_eq_true c3
   clear c3
   obtain ⟨y167,hy167⟩ : ∃ y_ : List (S131),y_ = (List.replicate ((l0.length : Int) : Int).toNat z131):=⟨_,rfl⟩
   replace H : (laws_toExNodeS.l0 k l0 y167 0) = some r:=by first|(rw [hy167];with_reducible exact H)|(have H2_:=(Option.bind_some _ _).symm.trans H;rw [hy167];with_reducible exact H2_)|(have H2_:=(Option.bind_some _ _).symm.trans H;with_reducible exact H2_)|with_reducible exact H|(rw [hy167];exact H)|exact H
   have Ny167:=zm_ hy167
   clear hy167
   have H':=zm_ H
   clear H
   go_enter Try.func61,Try.ntmps61
   go_wp2_with (first|((with_reducible refine gate_dst (N:=7) rfl ?_);refine Kd.S_make k131 _ 131 rfl (N:=7) rfl 120 _ _ rfl (l0.length : Int) rfl rfl Try.underlying120 (.agg #[(.int .i64 0),(.int .i64 0),(.string ⟨#[]⟩),(.slice none 0 0)]) 56 info131 rfl (by decide) (by omega) z131 (ok:=fun _ => True) (okp:=fun _ => True) (k131_mkM _ _ _ z131 (Kd.R_nil _ _ _ _ _)) (fun _ hk => hk) trivial (zo_) (Nat.le_trans (Nat.mul_le_mul_right _ (zo_ : (l0.length : Int).toNat ≤ 5026338869833)) (by omega)) (Below.refl _ _) (Nat.le_refl _) ?_;intro v168 w4 ho5 hb hg_ hnew_;clear hg_ hnew_;(first|rw [← Ny167.out] at ho5|(simp only [Int.reduceToNat] at ho5;rw [← Ny167.out] at ho5));have n0_:=zm_ (Kd.S_lower ho5 (below_size zB_));have n1_:=zm_ (below_step zB_ hb);clear HB;have HO169:=n0_;have HB:=n1_;clear n0_ n1_;clear hb ho5))
   go_loopg [4] k (fun kq v4 w' => ∃ (x3_1 : List (S131)) (x4_1 : Int),v4 = .int .i64 x4_1 ∧ Aside0 (laws_toExNodeS.l0 kq l0 x3_1 x4_1 = some r) ∧ Aside0 (kq ≤ k) ∧ Aside0 (Kd.S k131 131 w' w.heap.size (fun _ => True) v168 x3_1) ∧ Aside0 (Below w.heap.size w w'))
   case atStart => exact ⟨(y167),(0),zV_,H',⟨Nat.le_refl _⟩,⟨by (with_reducible repeat (first|apply Kd.S_alloc|apply Kd.S_drewN|apply Kd.S_drew));exact HO169.out⟩,⟨by repeat (first|(with_reducible first|exact HB.out|apply za_|apply zn_|apply zd_)|exact HB.out)⟩⟩
   case round =>
    clear H'
    try clear c2
    try clear c2b0
    try clear c2b1
    try clear p2
    try clear c3
    try clear c3b0
    try clear c3b1
    obtain ⟨x3_1,x4_1,rfl,HA,HK1,HO_3,HB⟩:=hrel
    cases gk with
    |zero => exact absurd HA.out (by simp [laws_toExNodeS.l0])
    |succ k1 =>
     have H:=HA.out
     clear HA
     simp only [laws_toExNodeS.l0] at H
     by_cases c6 : x4_1 < (l0.length : Int)
     ·rw [if_pos c6] at H
      have c6b0 : decide (x4_1 < (l0.length : Int)) = true:=decide_eq_true c6
      clear c6
      by_cases c7 : 0 ≤ x4_1
      ·rw [if_pos c7] at H
       have c7b0 : decide (0 ≤ x4_1) = true:=decide_eq_true c7
       clear c7
       replace H:=Option.bind_eq_some_iff.mp H
       obtain ⟨⟨t171,t172,t173,t174⟩,A80,H⟩:=H
       replace H : (if x4_1 < (x3_1.length : Int) then (laws_toExNodeS.l0 k1 l0 (x3_1.set (x4_1 : Int).toNat (⟨t171,t172,t173,t174⟩ : S131)) (wrap64 (x4_1 + 1))) else (none)) = some r:=H
       have A8:=zm_ A80
       clear A80
       by_cases c9 : x4_1 < (x3_1.length : Int)
       ·rw [if_pos c9] at H
        have c9b0 : decide (x4_1 < (x3_1.length : Int)) = true:=decide_eq_true c9
        clear c9
        obtain ⟨y177,hy177⟩ : ∃ y_ : List (S131),y_ = (x3_1.set (x4_1 : Int).toNat (⟨t171,t172,t173,t174⟩ : S131)):=⟨_,rfl⟩
        replace H : (laws_toExNodeS.l0 k1 l0 y177 (wrap64 (x4_1 + 1))) = some r:=by first|(rw [hy177];with_reducible exact H)|(have H2_:=(Option.bind_some _ _).symm.trans H;rw [hy177];with_reducible exact H2_)|(have H2_:=(Option.bind_some _ _).symm.trans H;with_reducible exact H2_)|with_reducible exact H|(rw [hy177];exact H)|exact H
        have Ny177:=zm_ hy177
        clear hy177
        have H':=zm_ H
        clear H
        have p170 : 0 ≤ (x4_1 : Int):=zo_
        have q170 : x4_1 < (l0.length : Int):=zo_
        obtain ⟨ad170,A170_3,c170_3,e170,hx170_0,hx170_1,hx170_2,hx170_3,hl170_3,hi170_3⟩:=at_T130 HR0.out x4_1 p170 q170
        cases e170
        replace hx170_0:=(HB.out.cell (zb_ w _ hx170_0)).trans hx170_0
        replace hx170_1:=(HB.out.cell (zb_ w _ hx170_1)).trans hx170_1
        replace hx170_2:=(HB.out.cell (zb_ w _ hx170_2)).trans hx170_2
        replace hx170_3:=(HB.out.cell (zb_ w _ hx170_3)).trans hx170_3
        have HR170_3:=zm_ hi170_3
        have HC170_3:=zm_ hl170_3
        clear hi170_3 hl170_3
        replace p170:=eq_true p170
        replace q170:=eq_true q170
        go_wp2_with (first|((with_reducible refine gate_callee (f:=64) rfl ?_);refine goesL_ (some 20) rfl rfl Try.func64 (by kernel_rfl) rfl #[.agg #[.int .i64 ((rd_T130 l0 x4_1).f0),.int .i64 ((rd_T130 l0 x4_1).f1),.string ((rd_T130 l0 x4_1).f2),.slice A170_3 ((rd_T130 l0 x4_1).f3).length c170_3]] rfl zq_ ?_;(with_reducible refine (laws_toExNode.calls k1 ((rd_T130 l0 x4_1).f0) ((rd_T130 l0 x4_1).f1) ((rd_T130 l0 x4_1).f2) _ _ ((rd_T130 l0 x4_1).f3) t171 t172 t173 t174 _ ?side1 ?side2 A8.out).mono ?_);(case side1 => repeat (first|exact (Kd.C_below HR170_3.out HB.out)|(with_reducible refine Kd.C_alloc ?_ _)|(with_reducible refine Kd.C_drewN ?_ _)|(with_reducible refine Kd.C_drew ?_)));(case side2 => exact HC170_3.out);rintro e w11 ⟨v175,rfl,ho0,hb⟩;refine ⟨_,rfl,?_⟩;have n0_:=zm_ (Kd.S_elder' (by (with_reducible repeat (first|apply Kd.S_alloc|apply Kd.S_drewN|apply Kd.S_drew));exact HO_3.out) (Kd.R_base ho0) hb);have n1_:=zm_ (Kd.R_lower ho0 (below_size zB_));have n2_:=zm_ (below_step zB_ hb);clear HO_3;clear HB;have HO_3:=n0_;have HO176:=n1_;have HB:=n2_;clear n0_ n1_ n2_;(try clear hb);(try clear hb2);(try clear hk);(try clear hi);(try clear ho0);have p10 : 0 ≤ (x4_1 : Int):=zo_;have q10 : (x4_1 : Int) < ((x3_1.length : Int) : Int):=zo_;obtain ⟨go10,co10,eo10,gb10,gl10,cl10,HG10⟩:=Kd.S_form HO_3.out (by omega);(first|cases eo10|(injection eo10 with ea_ en_ ec_;(first|subst ea_|(injection ea_ with ea_;subst ea_));subst ec_;clear en_));have GB10:=zm_ gb10;have GG10:=zm_ HG10;clear gb10 gl10 HG10;obtain ⟨_,ce10,hcl10,hM10,hcc10,hfr10,_,_⟩:=Kd.S_elem HO_3.out z131 (x4_1 : Int) p10 q10;obtain ⟨ve10_3,rfl,ge10_3⟩:=k131_openM hM10;have hx10_0 : w11.cell? ⟨go10,(x4_1 : Int).toNat * 4,none⟩ = some (.int .i64 ((rd_T131 x3_1 x4_1).f0)):=hcc10 0 _ rfl;have hx10_1 : w11.cell? ⟨go10,(x4_1 : Int).toNat * 4 + 1,none⟩ = some (.int .i64 ((rd_T131 x3_1 x4_1).f1)):=hcc10 1 _ rfl;have hx10_2 : w11.cell? ⟨go10,(x4_1 : Int).toNat * 4 + 2,none⟩ = some (.string ((rd_T131 x3_1 x4_1).f2)):=hcc10 2 _ rfl;have hx10_3 : w11.cell? ⟨go10,(x4_1 : Int).toNat * 4 + 3,none⟩ = some (ve10_3):=hcc10 3 _ rfl;have hf10_0 : w11.frozen? ⟨go10,(x4_1 : Int).toNat * 4,none⟩ = false:=hfr10 0;have hf10_1 : w11.frozen? ⟨go10,(x4_1 : Int).toNat * 4 + 1,none⟩ = false:=hfr10 1;have hf10_2 : w11.frozen? ⟨go10,(x4_1 : Int).toNat * 4 + 2,none⟩ = false:=hfr10 2;have hf10_3 : w11.frozen? ⟨go10,(x4_1 : Int).toNat * 4 + 3,none⟩ = false:=hfr10 3;clear hcl10 hcc10 hfr10 hM10;replace p10:=eq_true p10;replace q10:=eq_true q10;have n_:=zm_ (Kd.S_mono (ok':=(fun k_ => some k_ ≠ (v175 : Value).ownBlock)) HO_3.out (fun k_ hk => hk.2));clear HO_3;have HO_3:=n_;clear n_;have HX12:=zm_ (show Kd.S k131 131 w11 w.heap.size (fun k_ => ((fun _ => True)) k_ ∧ ¬ ((fun k_ => some k_ = (v175 : Value).ownBlock)) k_) (.slice (some ⟨go10,0,none⟩) x3_1.length co10) x3_1 from (by (with_reducible repeat (first|apply Kd.S_alloc|apply Kd.S_drewN|apply Kd.S_drew));exact Kd.S_mono HO_3.out (fun k_ hk => ⟨trivial,fun e_ => hk e_⟩)));obtain ⟨oki12,ce12,hcl12,hM12,hcc12,hfr12,hoki12,hH12⟩:=Kd.S_elem HX12.out z131 (x4_1 : Int) (zo_) (by have h_ : (x4_1 : Int) < ((x3_1.length : Int) : Int):=zo_;first|exact h_|(have e_:=(Kd.S_reads' HO_3.out).1;omega)|simpa using h_);obtain ⟨ve12_3,rfl,ge12_3⟩:=k131_openM hM12;have HP12:=Kd.S_seg hH12 (zo_) (by have h_ : (x4_1 : Int) < ((x3_1.length : Int) : Int):=zo_;first|exact h_|(have e_:=(Kd.S_reads' HO_3.out).1;omega)|simpa using h_) (seg:=[.int .i64 t171,.int .i64 t172,.string t173,v175]) (j:=0) (show 4 ≤ 4 from by decide) (x':=(⟨t171,t172,t173,t174⟩ : S131)) (k131_mkM _ _ _ (⟨t171,t172,t173,t174⟩ : S131) (Kd.R_mono (Kd.R_tight rfl (Kd.R_mono (ok':=fun k_ => ((fun _ => True)) k_ ∧ k_ ≠ go10) (Kd.R_apart' (HO176.out) (Kd.S_typed HO_3.out) (by decide)) (fun k_ hk => ⟨trivial,fun e_ => (hk.2) (by rw [e_];rfl)⟩))) (fun _ h_ => Or.inr (h_)))) (fun _ hk => hk) (fun k_ hk_ => ((Kd.R_mono (ok':=fun k_ => ((fun _ => True)) k_ ∧ k_ ≠ go10) (Kd.R_apart' (HO176.out) (Kd.S_typed HO_3.out) (by decide)) (fun k_ hk => ⟨trivial,fun e_ => (hk.2) (by rw [e_];rfl)⟩))).1 k_ hk_.symm);have hx12_0:=hcc12 0 _ rfl;(try simp only [show (k131).sz = 4 from rfl,Nat.mul_one,Nat.add_zero] at hx12_0);have hf12_0:=hfr12 0;(try simp only [show (k131).sz = 4 from rfl,Nat.mul_one,Nat.add_zero] at hf12_0);have hx12_1:=hcc12 1 _ rfl;(try simp only [show (k131).sz = 4 from rfl,Nat.mul_one,Nat.add_zero] at hx12_1);have hf12_1:=hfr12 1;(try simp only [show (k131).sz = 4 from rfl,Nat.mul_one,Nat.add_zero] at hf12_1);have hx12_2:=hcc12 2 _ rfl;(try simp only [show (k131).sz = 4 from rfl,Nat.mul_one,Nat.add_zero] at hx12_2);have hf12_2:=hfr12 2;(try simp only [show (k131).sz = 4 from rfl,Nat.mul_one,Nat.add_zero] at hf12_2);have hx12_3:=hcc12 3 _ rfl;(try simp only [show (k131).sz = 4 from rfl,Nat.mul_one,Nat.add_zero] at hx12_3);have hf12_3:=hfr12 3;(try simp only [show (k131).sz = 4 from rfl,Nat.mul_one,Nat.add_zero] at hf12_3);clear hcl12 hcc12 hfr12 hM12 hoki12 hH12)|((with_reducible refine gate_store (t:=131) (p:=21) rfl ?_);(first|have st3_:=store_own (P:=Try.prog) HO176.out|have st3_:=store_own (P:=Try.prog) (Kd.S_R HO176.out));refine store_event (t:=131) (p:=21) (v:=?vo_w13) (w1:=((((w11.setCell ⟨go10,(x4_1 : Int).toNat * 4,none⟩ (.int .i64 t171)).setCell ⟨go10,(x4_1 : Int).toNat * 4 + 1,none⟩ (.int .i64 t172)).setCell ⟨go10,(x4_1 : Int).toNat * 4 + 2,none⟩ (.string t173)).setCell ⟨go10,(x4_1 : Int).toNat * 4 + 3,none⟩ (v175))) ?hg ?ho ?hn ?hr ?_;(case ho => rfl);(case hg => rfl);(case hn => rfl);(case hr => first|(go_simp;done)|(go_simp;rfl));intro w13 hw;have hg : w11.grownBy w13 (some go10):=(by rw [hw];exact HP12.2);have hp_ : Kd.S k131 131 w13 w.heap.size (fun _ => True) (.slice (some ⟨go10,0,none⟩) x3_1.length co10) y177:=(by rw [hw,Ny177.out];exact HP12.1);clear HP12;have n0_:=zm_ (hp_);have n1_:=zm_ ((by rw [hw];exact zs_ (zs_ (zs_ (zs_ (HB.out) GB10.out) GB10.out) GB10.out) GB10.out : Below w.heap.size w w13));clear HO_3;clear HB;clear HO176;have HO_3:=n0_;have HB:=n1_;clear n0_ n1_;clear hg hw hp_))
        go_roundg k1
        case measure => have:=HK1.out;omega
        case rel => exact ⟨(y177),(wrap64 (x4_1 + 1)),zV_,H',⟨by have:=HK1.out;omega⟩,⟨by (with_reducible repeat (first|apply Kd.S_alloc|apply Kd.S_drewN|apply Kd.S_drew));exact HO_3.out⟩,⟨by repeat (first|(with_reducible first|exact HB.out|apply za_|apply zn_|apply zd_)|exact HB.out)⟩⟩
       ·rw [if_neg c9] at H
        exact absurd H (by simp)
      ·rw [if_neg c7] at H
       exact absurd H (by simp)
     ·rw [if_neg c6] at H
      have c6b0 : decide (x4_1 < (l0.length : Int)) = false:=decide_eq_false c6
      clear c6
      obtain rfl:=Option.some.inj H
      go_wp2
      go_ret
      exact ⟨_,by first|rfl|(simp [errW_none,errW_some] <;> rfl)|(simp [*,errW_none,errW_some] <;> rfl),by (with_reducible repeat (first|apply Kd.S_alloc|apply Kd.S_drewN|apply Kd.S_drew));exact HO_3.out,by repeat (first|(with_reducible first|exact HB.out|apply za_|apply zn_|apply zd_)|exact HB.out)⟩
  ·rw [if_neg c3] at H
   exact absurd H (by simp)
 ·rw [if_neg c2] at H
  exact absurd H (by simp)

def laws_toExpr.f (k : Nat) (l0_0 : List (S130)) : Option ((List (S131))):=(laws_toExNodeS.f k l0_0).bind fun t181 => (some t181)
theorem laws_toExpr.mono : ∀ a0 k,LeO (laws_toExpr.f k a0) (laws_toExpr.f (k + 1) a0):=by
 intro a0 k
 unfold laws_toExpr.f
 repeat' first
   |(with_reducible exact laws_toExNodeS.mono _ _)
   |(with_reducible exact LeO.refl _)
   |(with_reducible exact LeO.none _)
   |(with_reducible refine LeO.ite ?_ ?_)
   |(with_reducible refine LeO.bind ?_ (fun _ => ?_))
set_option maxHeartbeats 8000000 in
set_option maxRecDepth 100000 in
theorem laws_toExpr.calls (k : Nat) (A0_0 : Option Addr) (c0_0 : Nat) (l0_0 : List (S130)) (r : List (S131)) (w : World) (hr0_0 : Kd.C k130 w A0_0 l0_0.length l0_0) (hc0_0 : l0_0.length ≤ c0_0) (h : laws_toExpr.f k l0_0 = some r) :
  Calls Try.prog 58 #[.agg #[.slice A0_0 l0_0.length c0_0]] w fun e w' => ∃ v0_ : Value,e = .returned (.agg #[v0_]) ∧ Kd.S k131 131 w' w.heap.size (fun _ => True) v0_ r ∧ Below w.heap.size w w':=by
 have hu119:=Try.underlying119
 have hu122:=Try.underlying122
 have HR0_0:=zm_ hr0_0
 have HC0_0:=zm_ hc0_0
 clear hr0_0 hc0_0
 have HB:=zm_ (Below.refl w.heap.size w)
 have H : ((laws_toExNodeS.f k l0_0).bind fun t181 => (some t181)) = some r:=h
 clear h
 replace H:=Option.bind_eq_some_iff.mp H
 obtain ⟨t181,A20,H⟩:=H
 replace H : (some t181) = some r:=H
 have A2:=zm_ A20
 clear A20
 obtain rfl:=Option.some.inj H
 go_enter Try.func58,Try.ntmps58
 go_wp2_with (first|((with_reducible refine gate_dst (N:=1) rfl ?_);refine box_event ?hg (N:=1) ?hd (cs:=#[.slice A0_0 l0_0.length c0_0]) (t:=119) ?hr ?_;(case hd => rfl);(case hg => rfl);(case hr => first|(go_simp;done)|(go_simp;rfl));intro gb178 hg w3 hbox hb;have n0_:=zm_ (below_step zB_ hb);have n1_:=zm_ (hbox);have n2_:=zm_ ((by rw [hg];exact (below_size zB_) : w.heap.size ≤ gb178));have n3_:=zm_ ((by rw [hg];exact (below_size zB_) : w.heap.size ≤ gb178));clear HB;have HB:=n0_;have BK178:=n1_;have GW178:=n2_;have GE178:=n3_;clear n0_ n1_ n2_ n3_;clear hb hbox hg)|((with_reducible refine gate_dst (N:=2) rfl ?_);refine box_event ?hg (N:=2) ?hd (cs:=#[.slice none 0 0]) (t:=122) ?hr ?_;(case hd => rfl);(case hg => rfl);(case hr => first|(go_simp;done)|(go_simp;rfl));intro gb179 hg w4 hbox hb;have n0_:=zm_ (blk_below (g:=gb178) (o:=.cells #[.slice A0_0 l0_0.length c0_0] 119 (0,0)) (by (with_reducible repeat first|refine zl_ ?_ _|refine zr_ ?_|refine zk_ ?_ _);exact BK178.out) hb);have n1_:=zm_ (below_step (by repeat (first|(with_reducible first|exact HB.out|apply za_|apply zn_|apply zd_|refine zs_ ?_ GE178.out)|exact HB.out)) hb);have n2_:=zm_ (hbox);have n3_:=zm_ ((by rw [hg];exact (below_size (by repeat (first|(with_reducible first|exact HB.out|apply za_|apply zn_|apply zd_|refine zs_ ?_ GE178.out)|exact HB.out))) : w.heap.size ≤ gb179));have n4_:=zm_ ((by rw [hg];exact (below_size (by repeat (first|(with_reducible first|exact HB.out|apply za_|apply zn_|apply zd_|refine zs_ ?_ GE178.out)|exact HB.out))) : w.heap.size ≤ gb179));have n5_:=zm_ ((by rw [hg];exact Nat.ne_of_lt (blk_lt (g:=gb178) (o:=.cells #[.slice A0_0 l0_0.length c0_0] 119 (0,0)) (by (with_reducible repeat first|refine zl_ ?_ _|refine zr_ ?_|refine zk_ ?_ _);exact BK178.out)) : gb178 ≠ gb179));have n6_:=zm_ ((by rw [hg];exact Nat.ne_of_gt (blk_lt (g:=gb178) (o:=.cells #[.slice A0_0 l0_0.length c0_0] 119 (0,0)) (by (with_reducible repeat first|refine zl_ ?_ _|refine zr_ ?_|refine zk_ ?_ _);exact BK178.out)) : gb179 ≠ gb178));clear BK178;clear HB;have BK178:=n0_;have HB:=n1_;have BK179:=n2_;have GW179:=n3_;have GE179:=n4_;have NB178_179:=n5_;have NB179_178:=n6_;clear n0_ n1_ n2_ n3_ n4_ n5_ n6_;clear hb hbox hg)|((with_reducible refine gate_dst (N:=3) rfl ?_);refine box_event ?hg (N:=3) ?hd (cs:=#[.slice none 0 0]) (t:=122) ?hr ?_;(case hd => rfl);(case hg => rfl);(case hr => first|(go_simp;done)|(go_simp;rfl));intro gb180 hg w5 hbox hb;have n0_:=zm_ (blk_below (g:=gb178) (o:=.cells #[.slice A0_0 l0_0.length c0_0] 119 (0,0)) (by (with_reducible repeat first|refine zl_ ?_ _|refine zr_ ?_|refine zk_ ?_ _);exact BK178.out) hb);have n1_:=zm_ (blk_below (g:=gb179) (o:=.cells #[.slice none 0 0] 122 (0,0)) (by (with_reducible repeat first|refine zl_ ?_ _|refine zr_ ?_|refine zk_ ?_ _);exact BK179.out) hb);have n2_:=zm_ (below_step (by repeat (first|(with_reducible first|exact HB.out|apply za_|apply zn_|apply zd_|refine zs_ ?_ GE178.out|refine zs_ ?_ GE179.out)|exact HB.out)) hb);have n3_:=zm_ (hbox);have n4_:=zm_ ((by rw [hg];exact (below_size (by repeat (first|(with_reducible first|exact HB.out|apply za_|apply zn_|apply zd_|refine zs_ ?_ GE178.out|refine zs_ ?_ GE179.out)|exact HB.out))) : w.heap.size ≤ gb180));have n5_:=zm_ ((by rw [hg];exact (below_size (by repeat (first|(with_reducible first|exact HB.out|apply za_|apply zn_|apply zd_|refine zs_ ?_ GE178.out|refine zs_ ?_ GE179.out)|exact HB.out))) : w.heap.size ≤ gb180));have n6_:=zm_ ((by rw [hg];exact Nat.ne_of_lt (blk_lt (g:=gb178) (o:=.cells #[.slice A0_0 l0_0.length c0_0] 119 (0,0)) (by (with_reducible repeat first|refine zl_ ?_ _|refine zr_ ?_|refine zk_ ?_ _);exact BK178.out)) : gb178 ≠ gb180));have n7_:=zm_ ((by rw [hg];exact Nat.ne_of_gt (blk_lt (g:=gb178) (o:=.cells #[.slice A0_0 l0_0.length c0_0] 119 (0,0)) (by (with_reducible repeat first|refine zl_ ?_ _|refine zr_ ?_|refine zk_ ?_ _);exact BK178.out)) : gb180 ≠ gb178));have n8_:=zm_ ((by rw [hg];exact Nat.ne_of_lt (blk_lt (g:=gb179) (o:=.cells #[.slice none 0 0] 122 (0,0)) (by (with_reducible repeat first|refine zl_ ?_ _|refine zr_ ?_|refine zk_ ?_ _);exact BK179.out)) : gb179 ≠ gb180));have n9_:=zm_ ((by rw [hg];exact Nat.ne_of_gt (blk_lt (g:=gb179) (o:=.cells #[.slice none 0 0] 122 (0,0)) (by (with_reducible repeat first|refine zl_ ?_ _|refine zr_ ?_|refine zk_ ?_ _);exact BK179.out)) : gb180 ≠ gb179));clear BK178;clear BK179;clear HB;have BK178:=n0_;have BK179:=n1_;have HB:=n2_;have BK180:=n3_;have GW180:=n4_;have GE180:=n5_;have NB178_180:=n6_;have NB180_178:=n7_;have NB179_180:=n8_;have NB180_179:=n9_;clear n0_ n1_ n2_ n3_ n4_ n5_ n6_ n7_ n8_ n9_;clear hb hbox hg;have hnb6:=NB178_179.out;have hnc6:=NB179_178.out;have hnb7:=NB178_180.out;have hnc7:=NB180_178.out;have hcz8_0 : w5.cell? ⟨gb178,0,none⟩ = some (.slice A0_0 l0_0.length c0_0):=(zc_ BK178.out 0).trans rfl;have hfz8_0:=zf_ BK178.out 0)|((with_reducible refine gate_callee (f:=61) rfl ?_);refine goesL_ (some 6) rfl rfl Try.func61 (by kernel_rfl) rfl #[.slice A0_0 l0_0.length c0_0] rfl zq_ ?_;(with_reducible refine (laws_toExNodeS.calls k _ _ l0_0 t181 _ ?side1 ?side2 A2.out).mono ?_);(case side1 => repeat (first|exact (Kd.C_below HR0_0.out HB.out)|(with_reducible refine Kd.C_alloc ?_ _)|(with_reducible refine Kd.C_drewN ?_ _)|(with_reducible refine Kd.C_drew ?_)));(case side2 => exact HC0_0.out);rintro e w9 ⟨v182,rfl,ho0,hb⟩;refine ⟨_,rfl,?_⟩;have n0_:=zm_ (Kd.S_lower ho0 (below_size (by repeat (first|(with_reducible first|exact HB.out|apply za_|apply zn_|apply zd_|refine zs_ ?_ GE178.out|refine zs_ ?_ GE179.out|refine zs_ ?_ GE180.out)|exact HB.out))));have n1_:=zm_ (blk_below (g:=gb178) (o:=.cells #[.slice A0_0 l0_0.length c0_0] 119 (0,0)) (by (with_reducible repeat first|refine zl_ ?_ _|refine zr_ ?_|refine zk_ ?_ _);exact BK178.out) hb);have n2_:=zm_ (blk_below (g:=gb179) (o:=.cells #[.slice none 0 0] 122 (0,0)) (by (with_reducible repeat first|refine zl_ ?_ _|refine zr_ ?_|refine zk_ ?_ _);exact BK179.out) hb);have n3_:=zm_ (blk_below (g:=gb180) (o:=.cells #[.slice none 0 0] 122 (0,0)) (by (with_reducible repeat first|refine zl_ ?_ _|refine zr_ ?_|refine zk_ ?_ _);exact BK180.out) hb);have n4_:=zm_ (below_step (by repeat (first|(with_reducible first|exact HB.out|apply za_|apply zn_|apply zd_|refine zs_ ?_ GE178.out|refine zs_ ?_ GE179.out|refine zs_ ?_ GE180.out)|exact HB.out)) hb);clear BK178;clear BK179;clear BK180;clear HB;have HO183:=n0_;have BK178:=n1_;have BK179:=n2_;have BK180:=n3_;have HB:=n4_;clear n0_ n1_ n2_ n3_ n4_;(try clear hb);(try clear hb2);(try clear hk);(try clear hi);(try clear ho0);obtain ⟨Ao10,co10,eo10⟩:=Kd.S_slice HO183.out;subst eo10;have hnb11:=NB180_179.out;have hnc11:=NB179_180.out;have hcz12_0 : w9.cell? ⟨gb180,0,none⟩ = some (.slice none 0 0):=(zc_ BK180.out 0).trans rfl;have hfz12_0:=zf_ BK180.out 0;have hcz13_0 : w9.cell? ⟨gb179,0,none⟩ = some (.slice none 0 0):=(zc_ BK179.out 0).trans rfl;have hfz13_0:=zf_ BK179.out 0))
 refine bodyPost_ret (results_cell_row rfl _ _ gb179 122 #[.slice Ao10 t181.length co10] (0,0) _ rfl (by (with_reducible repeat first|refine zl_ ?_ _|refine zr_ ?_|refine zk_ ?_ _);refine blk_put (cs:=#[.slice none 0 0]) ?_ 0 _ rfl;(with_reducible repeat first|refine zl_ ?_ _|refine zr_ ?_|refine zk_ ?_ _);refine blk_far ?_ NB179_180.out _;(with_reducible repeat first|refine zl_ ?_ _|refine zr_ ?_|refine zk_ ?_ _);exact BK179.out) Try.underlying122 rfl (by kernel_rfl)) rfl ?_
 exact ⟨_,by first|rfl|(simp [errW_none,errW_some] <;> rfl)|(simp [*,errW_none,errW_some] <;> rfl),by (with_reducible repeat (first|apply Kd.S_alloc|apply Kd.S_drewN|apply Kd.S_drew));exact Kd.S_mono (Kd.S_far (p:=⟨gb179,0,none⟩) (Kd.S_far (p:=⟨gb180,0,none⟩) (Kd.S_types (Kd.S_types HO183.out BK180.out (by decide)) BK179.out (by decide)) (fun _ hk => hk.1.2) (.slice Ao10 t181.length co10)) (fun _ hk => hk.2) (.slice Ao10 t181.length co10)) (fun _ hk => trivial),by repeat (first|(with_reducible first|exact HB.out|apply za_|apply zn_|apply zd_|refine zs_ ?_ GE178.out|refine zs_ ?_ GE179.out|refine zs_ ?_ GE180.out)|exact HB.out)⟩

def laws_toExprS.l0 : Nat → List (S119) → List (S122) → Int → Option ((List (S122)))
 |0,_,_,_ => none
 |k + 1,x0,x3,x4 => if x4 < (x0.length : Int) then (if 0 ≤ x4 then ((laws_toExpr.f k ((rd_T119 x0 x4).f0)).bind fun t188 => (if x4 < (x3.length : Int) then (laws_toExprS.l0 k x0 (x3.set (x4 : Int).toNat (⟨t188⟩ : S122)) (wrap64 (x4 + 1))) else (none))) else (none)) else (some x3)
def laws_toExprS.f (k : Nat) (l0 : List (S119)) : Option ((List (S122))):=if 0 ≤ (l0.length : Int) then (if ((l0.length : Int) : Int).toNat ≤ 11728124029610 then (laws_toExprS.l0 k l0 (List.replicate ((l0.length : Int) : Int).toNat z122) 0) else (none)) else (none)
theorem laws_toExprS.mono_l : ∀ k,(∀ y0 y1 y2,LeO (laws_toExprS.l0 k y0 y1 y2) (laws_toExprS.l0 (k + 1) y0 y1 y2))
 |0 => fun _ _ _ r h => by simp [laws_toExprS.l0] at h
 |k + 1 => by
  have ih0:=laws_toExprS.mono_l k
  ·intro y0 y1 y2
   unfold laws_toExprS.l0
   repeat' first
   |(with_reducible exact ih0 _ _ _)
   |(with_reducible exact laws_toExpr.mono _ _)
   |(with_reducible exact LeO.refl _)
   |(with_reducible exact LeO.none _)
   |(with_reducible refine LeO.ite ?_ ?_)
   |(with_reducible refine LeO.bind ?_ (fun _ => ?_))
theorem laws_toExprS.mono : ∀ a0 k,LeO (laws_toExprS.f k a0) (laws_toExprS.f (k + 1) a0):=by
 intro a0 k
 have ih0:=laws_toExprS.mono_l k
 unfold laws_toExprS.f
 repeat' first
   |(with_reducible exact ih0 _ _ _)
   |(with_reducible exact laws_toExpr.mono _ _)
   |(with_reducible exact LeO.refl _)
   |(with_reducible exact LeO.none _)
   |(with_reducible refine LeO.ite ?_ ?_)
   |(with_reducible refine LeO.bind ?_ (fun _ => ?_))
set_option maxHeartbeats 8000000 in
set_option maxRecDepth 100000 in
theorem laws_toExprS.calls (k : Nat) (A0 : Option Addr) (c0 : Nat) (l0 : List (S119)) (r : List (S122)) (w : World) (hr0 : Kd.C k119 w A0 l0.length l0) (hc0 : l0.length ≤ c0) (h : laws_toExprS.f k l0 = some r) :
  Calls Try.prog 55 #[.slice A0 l0.length c0] w fun e w' => ∃ v0_ : Value,e = .returned (v0_) ∧ Kd.R k122 122 w' w.heap.size (fun _ => True) v0_ r ∧ Below w.heap.size w w':=by
 have hu119:=Try.underlying119
 have hu122:=Try.underlying122
 have HR0:=zm_ hr0
 have HC0:=zm_ hc0
 clear hr0 hc0
 have HB:=zm_ (Below.refl w.heap.size w)
 have H : (if 0 ≤ (l0.length : Int) then (if ((l0.length : Int) : Int).toNat ≤ 11728124029610 then (laws_toExprS.l0 k l0 (List.replicate ((l0.length : Int) : Int).toNat z122) 0) else (none)) else (none)) = some r:=h
 clear h
 by_cases c2 : 0 ≤ (l0.length : Int)
 ·rw [if_pos c2] at H
  have c2b0:=eq_true c2
  have c2b1 : decide (0 ≤ (l0.length : Int)) = true:=decide_eq_true c2
  clear c2
  by_cases c3 : ((l0.length : Int) : Int).toNat ≤ 11728124029610
  ·rw [if_pos c3] at H
   have c3b0:=eq_true c3
   have c3b1 : decide (((l0.length : Int) : Int).toNat ≤ 11728124029610) = true:=decide_eq_true c3
   clear c3
   obtain ⟨y184,hy184⟩ : ∃ y_ : List (S122),y_ = (List.replicate ((l0.length : Int) : Int).toNat z122):=⟨_,rfl⟩
   replace H : (laws_toExprS.l0 k l0 y184 0) = some r:=by first|(rw [hy184];with_reducible exact H)|(have H2_:=(Option.bind_some _ _).symm.trans H;rw [hy184];with_reducible exact H2_)|(have H2_:=(Option.bind_some _ _).symm.trans H;with_reducible exact H2_)|with_reducible exact H|(rw [hy184];exact H)|exact H
   have Ny184:=zm_ hy184
   clear hy184
   have H':=zm_ H
   clear H
   go_enter Try.func55,Try.ntmps55
   go_wp2_with (first|((with_reducible refine gate_dst (N:=7) rfl ?_);refine Kd.R_make k122 _ 122 rfl (N:=7) rfl 108 _ _ rfl (l0.length : Int) rfl rfl Try.underlying108 (.agg #[(.slice none 0 0)]) 24 info122 rfl (by decide) (by omega) z122 (ok:=fun _ => True) (okp:=fun _ => True) (k122_mkM _ _ _ z122 (Kd.R_nil _ _ _ _ _)) (fun _ hk => hk) trivial (zo_) (Nat.le_trans (Nat.mul_le_mul_right _ (zo_ : (l0.length : Int).toNat ≤ 11728124029610)) (by omega)) (Below.refl _ _) (Nat.le_refl _) ?_;intro v185 w4 ho5 hb hg_ hnew_;clear hg_ hnew_;(first|rw [← Ny184.out] at ho5|(simp only [Int.reduceToNat] at ho5;rw [← Ny184.out] at ho5));have n0_:=zm_ (Kd.R_lower ho5 (below_size zB_));have n1_:=zm_ (below_step zB_ hb);clear HB;have HO186:=n0_;have HB:=n1_;clear n0_ n1_;clear hb ho5))
   go_loopg [4] k (fun kq v4 w' => ∃ (x3_1 : List (S122)) (x4_1 : Int),v4 = .int .i64 x4_1 ∧ Aside0 (laws_toExprS.l0 kq l0 x3_1 x4_1 = some r) ∧ Aside0 (kq ≤ k) ∧ Aside0 (Kd.R k122 122 w' w.heap.size (fun _ => True) v185 x3_1) ∧ Aside0 (Below w.heap.size w w'))
   case atStart => exact ⟨(y184),(0),zV_,H',⟨Nat.le_refl _⟩,⟨by (with_reducible repeat (first|apply Kd.R_alloc|apply Kd.R_drewN|apply Kd.R_drew));exact HO186.out⟩,⟨by repeat (first|(with_reducible first|exact HB.out|apply za_|apply zn_|apply zd_)|exact HB.out)⟩⟩
   case round =>
    clear H'
    try clear c2
    try clear c2b0
    try clear c2b1
    try clear p2
    try clear c3
    try clear c3b0
    try clear c3b1
    try clear c5
    obtain ⟨x3_1,x4_1,rfl,HA,HK1,HO_3,HB⟩:=hrel
    cases gk with
    |zero => exact absurd HA.out (by simp [laws_toExprS.l0])
    |succ k1 =>
     have H:=HA.out
     clear HA
     simp only [laws_toExprS.l0] at H
     by_cases c6 : x4_1 < (l0.length : Int)
     ·rw [if_pos c6] at H
      have c6b0 : decide (x4_1 < (l0.length : Int)) = true:=decide_eq_true c6
      clear c6
      by_cases c7 : 0 ≤ x4_1
      ·rw [if_pos c7] at H
       have c7b0 : decide (0 ≤ x4_1) = true:=decide_eq_true c7
       clear c7
       replace H:=Option.bind_eq_some_iff.mp H
       obtain ⟨t188,A80,H⟩:=H
       replace H : (if x4_1 < (x3_1.length : Int) then (laws_toExprS.l0 k1 l0 (x3_1.set (x4_1 : Int).toNat (⟨t188⟩ : S122)) (wrap64 (x4_1 + 1))) else (none)) = some r:=H
       have A8:=zm_ A80
       clear A80
       by_cases c9 : x4_1 < (x3_1.length : Int)
       ·rw [if_pos c9] at H
        have c9b0 : decide (x4_1 < (x3_1.length : Int)) = true:=decide_eq_true c9
        clear c9
        obtain ⟨y191,hy191⟩ : ∃ y_ : List (S122),y_ = (x3_1.set (x4_1 : Int).toNat (⟨t188⟩ : S122)):=⟨_,rfl⟩
        replace H : (laws_toExprS.l0 k1 l0 y191 (wrap64 (x4_1 + 1))) = some r:=by first|(rw [hy191];with_reducible exact H)|(have H2_:=(Option.bind_some _ _).symm.trans H;rw [hy191];with_reducible exact H2_)|(have H2_:=(Option.bind_some _ _).symm.trans H;with_reducible exact H2_)|with_reducible exact H|(rw [hy191];exact H)|exact H
        have Ny191:=zm_ hy191
        clear hy191
        have H':=zm_ H
        clear H
        have p187 : 0 ≤ (x4_1 : Int):=zo_
        have q187 : x4_1 < (l0.length : Int):=zo_
        obtain ⟨ad187,A187_0,c187_0,e187,hx187_0,hl187_0,hi187_0⟩:=at_T119 HR0.out x4_1 p187 q187
        cases e187
        replace hx187_0:=(HB.out.cell (zb_ w _ hx187_0)).trans hx187_0
        have HR187_0:=zm_ hi187_0
        have HC187_0:=zm_ hl187_0
        clear hi187_0 hl187_0
        replace p187:=eq_true p187
        replace q187:=eq_true q187
        go_wp2_with (first|((with_reducible refine gate_callee (f:=58) rfl ?_);refine goesL_ (some 20) rfl rfl Try.func58 (by kernel_rfl) rfl #[.agg #[.slice A187_0 ((rd_T119 l0 x4_1).f0).length c187_0]] rfl zq_ ?_;(with_reducible refine (laws_toExpr.calls k1 _ _ ((rd_T119 l0 x4_1).f0) t188 _ ?side1 ?side2 A8.out).mono ?_);(case side1 => repeat (first|exact (Kd.C_below HR187_0.out HB.out)|(with_reducible refine Kd.C_alloc ?_ _)|(with_reducible refine Kd.C_drewN ?_ _)|(with_reducible refine Kd.C_drew ?_)));(case side2 => exact HC187_0.out);rintro e w11 ⟨v189,rfl,ho0,hb⟩;refine ⟨_,rfl,?_⟩;have n0_:=zm_ (Kd.R_elder' (by (with_reducible repeat (first|apply Kd.R_alloc|apply Kd.R_drewN|apply Kd.R_drew));exact HO_3.out) (Kd.S_base ho0) hb);have n1_:=zm_ (Kd.S_lower ho0 (below_size zB_));have n2_:=zm_ (below_step zB_ hb);clear HO_3;clear HB;have HO_3:=n0_;have HO190:=n1_;have HB:=n2_;clear n0_ n1_ n2_;(try clear hb);(try clear hb2);(try clear hk);(try clear hi);(try clear ho0);have p10 : 0 ≤ (x4_1 : Int):=zo_;have q10 : (x4_1 : Int) < ((x3_1.length : Int) : Int):=zo_;obtain ⟨go10,co10,eo10,gb10,gl10,cl10,HG10⟩:=Kd.R_form HO_3.out (by omega);(first|cases eo10|(injection eo10 with ea_ en_ ec_;(first|subst ea_|(injection ea_ with ea_;subst ea_));subst ec_;clear en_));have GB10:=zm_ gb10;have GG10:=zm_ HG10;clear gb10 gl10 HG10;obtain ⟨ce10,hcl10,hM10,hcc10,hfr10⟩:=Kd.R_elem HO_3.out z122 (x4_1 : Int) p10 q10;obtain ⟨ve10_0,rfl,ge10_0⟩:=k122_openM hM10;have hx10_0:=hcc10 0 _ rfl;have hf10_0:=hfr10 0;(try simp only [show (k122).sz = 1 from rfl,Nat.mul_one,Nat.add_zero] at hx10_0);(try simp only [show (k122).sz = 1 from rfl,Nat.mul_one,Nat.add_zero] at hf10_0);clear hcl10 hcc10 hfr10 hM10;replace p10:=eq_true p10;replace q10:=eq_true q10;have n_:=zm_ (Kd.R_mono (ok':=(fun k_ => some k_ ≠ (v189 : Value).ownBlock)) HO_3.out (fun k_ hk => hk.2));clear HO_3;have HO_3:=n_;clear n_;have HX12:=zm_ (show Kd.R k122 122 w11 w.heap.size (fun _ => True) (.slice (some ⟨go10,0,none⟩) x3_1.length co10) x3_1 from (by (with_reducible repeat (first|apply Kd.R_alloc|apply Kd.R_drewN|apply Kd.R_drew));exact Kd.R_mono HO_3.out (fun _ hk => trivial)));obtain ⟨ce12,hcl12,hM12,hcc12,hfr12⟩:=Kd.R_elem HX12.out z122 (x4_1 : Int) (zo_) (by have h_ : (x4_1 : Int) < ((x3_1.length : Int) : Int):=zo_;first|exact h_|(have e_:=(Kd.R_reads' HO_3.out).1;omega)|simpa using h_);obtain ⟨ve12_0,rfl,ge12_0⟩:=k122_openM hM12;have HP12:=Kd.R_seg HX12.out (x4_1 : Int) (zo_) (by have h_ : (x4_1 : Int) < ((x3_1.length : Int) : Int):=zo_;first|exact h_|(have e_:=(Kd.R_reads' HO_3.out).1;omega)|simpa using h_) (seg:=[v189]) (j:=0) hcl12 hcc12 (show 1 ≤ 1 from by decide) (x':=(⟨t188⟩ : S122)) (k122_mkM _ _ _ (⟨t188⟩ : S122) (Kd.R_mono (Kd.R_apart' ((Kd.S_R HO190.out)) (Kd.R_typed HO_3.out) (by decide)) (fun k_ hk => ⟨trivial,fun e_ => (hk.2) (by rw [e_];rfl)⟩))) (fun _ hk => hk);have hx12_0:=hcc12 0 _ rfl;(try simp only [show (k122).sz = 1 from rfl,Nat.mul_one,Nat.add_zero] at hx12_0);have hf12_0:=hfr12 0;(try simp only [show (k122).sz = 1 from rfl,Nat.mul_one,Nat.add_zero] at hf12_0);clear hcl12 hcc12 hfr12 hM12;(try simp only [show (k122).sz = 1 from rfl,Nat.mul_one,Nat.add_zero] at HP12))|((with_reducible refine gate_store (t:=122) (p:=21) rfl ?_);(first|have st0_:=store_own (P:=Try.prog) HO190.out|have st0_:=store_own (P:=Try.prog) (Kd.S_R HO190.out));refine store_event (t:=122) (p:=21) (v:=?vo_w13) (w1:=(w11.setCell ⟨go10,(x4_1 : Int).toNat,none⟩ (v189))) ?hg ?ho ?hn ?hr ?_;(case ho => rfl);(case hg => rfl);(case hn => rfl);(case hr => first|(go_simp;done)|(go_simp;rfl));intro w13 hw;have hg : w11.grownBy w13 (some go10):=(by rw [hw];exact HP12.2);have hp_ : Kd.R k122 122 w13 w.heap.size (fun _ => True) (.slice (some ⟨go10,0,none⟩) x3_1.length co10) y191:=(by rw [hw,Ny191.out];exact HP12.1);clear HP12;have n0_:=zm_ (hp_);have n1_:=zm_ ((by rw [hw];exact zs_ (HB.out) GB10.out : Below w.heap.size w w13));clear HO_3;clear HB;clear HO190;have HO_3:=n0_;have HB:=n1_;clear n0_ n1_;clear hg hw hp_))
        go_roundg k1
        case measure => have:=HK1.out;omega
        case rel => exact ⟨(y191),(wrap64 (x4_1 + 1)),zV_,H',⟨by have:=HK1.out;omega⟩,⟨by (with_reducible repeat (first|apply Kd.R_alloc|apply Kd.R_drewN|apply Kd.R_drew));exact HO_3.out⟩,⟨by repeat (first|(with_reducible first|exact HB.out|apply za_|apply zn_|apply zd_)|exact HB.out)⟩⟩
       ·rw [if_neg c9] at H
        exact absurd H (by simp)
      ·rw [if_neg c7] at H
       exact absurd H (by simp)
     ·rw [if_neg c6] at H
      have c6b0 : decide (x4_1 < (l0.length : Int)) = false:=decide_eq_false c6
      clear c6
      obtain rfl:=Option.some.inj H
      go_wp2
      go_ret
      exact ⟨_,by first|rfl|(simp [errW_none,errW_some] <;> rfl)|(simp [*,errW_none,errW_some] <;> rfl),by (with_reducible repeat (first|apply Kd.R_alloc|apply Kd.R_drewN|apply Kd.R_drew));exact HO_3.out,by repeat (first|(with_reducible first|exact HB.out|apply za_|apply zn_|apply zd_)|exact HB.out)⟩
  ·rw [if_neg c3] at H
   exact absurd H (by simp)
 ·rw [if_neg c2] at H
  exact absurd H (by simp)

def laws_toSym.f (k : Nat) (a0_0 : Int) (a0_1 : ByteArray) (l0_2 : List (S119)) (a0_3 : ByteArray) : Option (Int × ByteArray × (List (S122)) × ByteArray):=(laws_toExprS.f k l0_2).bind fun t195 => (some (a0_0,a0_1,t195,a0_3))
theorem laws_toSym.mono : ∀ a0 a1 a2 a3 k,LeO (laws_toSym.f k a0 a1 a2 a3) (laws_toSym.f (k + 1) a0 a1 a2 a3):=by
 intro a0 a1 a2 a3 k
 unfold laws_toSym.f
 repeat' first
   |(with_reducible exact laws_toExprS.mono _ _)
   |(with_reducible exact LeO.refl _)
   |(with_reducible exact LeO.none _)
   |(with_reducible refine LeO.ite ?_ ?_)
   |(with_reducible refine LeO.bind ?_ (fun _ => ?_))
set_option maxHeartbeats 8000000 in
set_option maxRecDepth 100000 in
theorem laws_toSym.calls (k : Nat) (a0_0 : Int) (a0_1 : ByteArray) (A0_2 : Option Addr) (c0_2 : Nat) (l0_2 : List (S119)) (a0_3 : ByteArray) (r1 : Int) (r2 : ByteArray) (r3 : List (S122)) (r4 : ByteArray) (w : World) (hr0_2 : Kd.C k119 w A0_2 l0_2.length l0_2) (hc0_2 : l0_2.length ≤ c0_2) (h : laws_toSym.f k a0_0 a0_1 l0_2 a0_3 = some (r1,r2,r3,r4)) :
  Calls Try.prog 52 #[.agg #[.int .i64 a0_0,.string a0_1,.slice A0_2 l0_2.length c0_2,.string a0_3]] w fun e w' => ∃ v2_ : Value,e = .returned (.agg #[.int .i64 r1,.string r2,v2_,.string r4]) ∧ Kd.R k122 122 w' w.heap.size (fun _ => True) v2_ r3 ∧ Below w.heap.size w w':=by
 have hu107:=Try.underlying107
 have hu110:=Try.underlying110
 have HR0_2:=zm_ hr0_2
 have HC0_2:=zm_ hc0_2
 clear hr0_2 hc0_2
 have HB:=zm_ (Below.refl w.heap.size w)
 have H : ((laws_toExprS.f k l0_2).bind fun t195 => (some (a0_0,a0_1,t195,a0_3))) = some (r1,r2,r3,r4):=h
 clear h
 replace H:=Option.bind_eq_some_iff.mp H
 obtain ⟨t195,A20,H⟩:=H
 replace H : (some (a0_0,a0_1,t195,a0_3)) = some (r1,r2,r3,r4):=H
 have A2:=zm_ A20
 clear A20
 simp only [Option.some.injEq,Prod.mk.injEq] at H
 obtain ⟨rfl,rfl,rfl,rfl⟩:=H
 go_enter Try.func52,Try.ntmps52
 go_wp2_with (first|((with_reducible refine gate_dst (N:=1) rfl ?_);refine box_event ?hg (N:=1) ?hd (cs:=#[.int .i64 a0_0,.string a0_1,.slice A0_2 l0_2.length c0_2,.string a0_3]) (t:=107) ?hr ?_;(case hd => rfl);(case hg => rfl);(case hr => first|(go_simp;done)|(go_simp;rfl));intro gb192 hg w3 hbox hb;have n0_:=zm_ (below_step zB_ hb);have n1_:=zm_ (hbox);have n2_:=zm_ ((by rw [hg];exact (below_size zB_) : w.heap.size ≤ gb192));have n3_:=zm_ ((by rw [hg];exact (below_size zB_) : w.heap.size ≤ gb192));clear HB;have HB:=n0_;have BK192:=n1_;have GW192:=n2_;have GE192:=n3_;clear n0_ n1_ n2_ n3_;clear hb hbox hg)|((with_reducible refine gate_dst (N:=2) rfl ?_);refine box_event ?hg (N:=2) ?hd (cs:=#[.int .i64 0,.string (⟨#[]⟩ : ByteArray),.slice none 0 0,.string (⟨#[]⟩ : ByteArray)]) (t:=110) ?hr ?_;(case hd => rfl);(case hg => rfl);(case hr => first|(go_simp;done)|(go_simp;rfl));intro gb193 hg w4 hbox hb;have n0_:=zm_ (blk_below (g:=gb192) (o:=.cells #[.int .i64 a0_0,.string a0_1,.slice A0_2 l0_2.length c0_2,.string a0_3] 107 (0,0)) (by (with_reducible repeat first|refine zl_ ?_ _|refine zr_ ?_|refine zk_ ?_ _);exact BK192.out) hb);have n1_:=zm_ (below_step (by repeat (first|(with_reducible first|exact HB.out|apply za_|apply zn_|apply zd_|refine zs_ ?_ GE192.out)|exact HB.out)) hb);have n2_:=zm_ (hbox);have n3_:=zm_ ((by rw [hg];exact (below_size (by repeat (first|(with_reducible first|exact HB.out|apply za_|apply zn_|apply zd_|refine zs_ ?_ GE192.out)|exact HB.out))) : w.heap.size ≤ gb193));have n4_:=zm_ ((by rw [hg];exact (below_size (by repeat (first|(with_reducible first|exact HB.out|apply za_|apply zn_|apply zd_|refine zs_ ?_ GE192.out)|exact HB.out))) : w.heap.size ≤ gb193));have n5_:=zm_ ((by rw [hg];exact Nat.ne_of_lt (blk_lt (g:=gb192) (o:=.cells #[.int .i64 a0_0,.string a0_1,.slice A0_2 l0_2.length c0_2,.string a0_3] 107 (0,0)) (by (with_reducible repeat first|refine zl_ ?_ _|refine zr_ ?_|refine zk_ ?_ _);exact BK192.out)) : gb192 ≠ gb193));have n6_:=zm_ ((by rw [hg];exact Nat.ne_of_gt (blk_lt (g:=gb192) (o:=.cells #[.int .i64 a0_0,.string a0_1,.slice A0_2 l0_2.length c0_2,.string a0_3] 107 (0,0)) (by (with_reducible repeat first|refine zl_ ?_ _|refine zr_ ?_|refine zk_ ?_ _);exact BK192.out)) : gb193 ≠ gb192));clear BK192;clear HB;have BK192:=n0_;have HB:=n1_;have BK193:=n2_;have GW193:=n3_;have GE193:=n4_;have NB192_193:=n5_;have NB193_192:=n6_;clear n0_ n1_ n2_ n3_ n4_ n5_ n6_;clear hb hbox hg)|((with_reducible refine gate_dst (N:=3) rfl ?_);refine box_event ?hg (N:=3) ?hd (cs:=#[.int .i64 0,.string (⟨#[]⟩ : ByteArray),.slice none 0 0,.string (⟨#[]⟩ : ByteArray)]) (t:=110) ?hr ?_;(case hd => rfl);(case hg => rfl);(case hr => first|(go_simp;done)|(go_simp;rfl));intro gb194 hg w5 hbox hb;have n0_:=zm_ (blk_below (g:=gb192) (o:=.cells #[.int .i64 a0_0,.string a0_1,.slice A0_2 l0_2.length c0_2,.string a0_3] 107 (0,0)) (by (with_reducible repeat first|refine zl_ ?_ _|refine zr_ ?_|refine zk_ ?_ _);exact BK192.out) hb);have n1_:=zm_ (blk_below (g:=gb193) (o:=.cells #[.int .i64 0,.string (⟨#[]⟩ : ByteArray),.slice none 0 0,.string (⟨#[]⟩ : ByteArray)] 110 (0,0)) (by (with_reducible repeat first|refine zl_ ?_ _|refine zr_ ?_|refine zk_ ?_ _);exact BK193.out) hb);have n2_:=zm_ (below_step (by repeat (first|(with_reducible first|exact HB.out|apply za_|apply zn_|apply zd_|refine zs_ ?_ GE192.out|refine zs_ ?_ GE193.out)|exact HB.out)) hb);have n3_:=zm_ (hbox);have n4_:=zm_ ((by rw [hg];exact (below_size (by repeat (first|(with_reducible first|exact HB.out|apply za_|apply zn_|apply zd_|refine zs_ ?_ GE192.out|refine zs_ ?_ GE193.out)|exact HB.out))) : w.heap.size ≤ gb194));have n5_:=zm_ ((by rw [hg];exact (below_size (by repeat (first|(with_reducible first|exact HB.out|apply za_|apply zn_|apply zd_|refine zs_ ?_ GE192.out|refine zs_ ?_ GE193.out)|exact HB.out))) : w.heap.size ≤ gb194));have n6_:=zm_ ((by rw [hg];exact Nat.ne_of_lt (blk_lt (g:=gb192) (o:=.cells #[.int .i64 a0_0,.string a0_1,.slice A0_2 l0_2.length c0_2,.string a0_3] 107 (0,0)) (by (with_reducible repeat first|refine zl_ ?_ _|refine zr_ ?_|refine zk_ ?_ _);exact BK192.out)) : gb192 ≠ gb194));have n7_:=zm_ ((by rw [hg];exact Nat.ne_of_gt (blk_lt (g:=gb192) (o:=.cells #[.int .i64 a0_0,.string a0_1,.slice A0_2 l0_2.length c0_2,.string a0_3] 107 (0,0)) (by (with_reducible repeat first|refine zl_ ?_ _|refine zr_ ?_|refine zk_ ?_ _);exact BK192.out)) : gb194 ≠ gb192));have n8_:=zm_ ((by rw [hg];exact Nat.ne_of_lt (blk_lt (g:=gb193) (o:=.cells #[.int .i64 0,.string (⟨#[]⟩ : ByteArray),.slice none 0 0,.string (⟨#[]⟩ : ByteArray)] 110 (0,0)) (by (with_reducible repeat first|refine zl_ ?_ _|refine zr_ ?_|refine zk_ ?_ _);exact BK193.out)) : gb193 ≠ gb194));have n9_:=zm_ ((by rw [hg];exact Nat.ne_of_gt (blk_lt (g:=gb193) (o:=.cells #[.int .i64 0,.string (⟨#[]⟩ : ByteArray),.slice none 0 0,.string (⟨#[]⟩ : ByteArray)] 110 (0,0)) (by (with_reducible repeat first|refine zl_ ?_ _|refine zr_ ?_|refine zk_ ?_ _);exact BK193.out)) : gb194 ≠ gb193));clear BK192;clear BK193;clear HB;have BK192:=n0_;have BK193:=n1_;have HB:=n2_;have BK194:=n3_;have GW194:=n4_;have GE194:=n5_;have NB192_194:=n6_;have NB194_192:=n7_;have NB193_194:=n8_;have NB194_193:=n9_;clear n0_ n1_ n2_ n3_ n4_ n5_ n6_ n7_ n8_ n9_;clear hb hbox hg;have hnb6:=NB192_193.out;have hnc6:=NB193_192.out;have hnb7:=NB192_194.out;have hnc7:=NB194_192.out;have hcz8_0 : w5.cell? ⟨gb192,0,none⟩ = some (.int .i64 a0_0):=(zc_ BK192.out 0).trans rfl;have hcz8_1 : w5.cell? ⟨gb192,1,none⟩ = some (.string a0_1):=(zc_ BK192.out 1).trans rfl;have hcz8_2 : w5.cell? ⟨gb192,2,none⟩ = some (.slice A0_2 l0_2.length c0_2):=(zc_ BK192.out 2).trans rfl;have hcz8_3 : w5.cell? ⟨gb192,3,none⟩ = some (.string a0_3):=(zc_ BK192.out 3).trans rfl;have hfz8_0:=zf_ BK192.out 0;have hfz8_1:=zf_ BK192.out 1;have hfz8_2:=zf_ BK192.out 2;have hfz8_3:=zf_ BK192.out 3;have hnb9:=NB194_193.out;have hnc9:=NB193_194.out;have hcz10_0 : w5.cell? ⟨gb194,0,none⟩ = some (.int .i64 0):=(zc_ BK194.out 0).trans rfl;have hcz10_1 : w5.cell? ⟨gb194,1,none⟩ = some (.string (⟨#[]⟩ : ByteArray)):=(zc_ BK194.out 1).trans rfl;have hcz10_2 : w5.cell? ⟨gb194,2,none⟩ = some (.slice none 0 0):=(zc_ BK194.out 2).trans rfl;have hcz10_3 : w5.cell? ⟨gb194,3,none⟩ = some (.string (⟨#[]⟩ : ByteArray)):=(zc_ BK194.out 3).trans rfl;have hfz10_0:=zf_ BK194.out 0;have hfz10_1:=zf_ BK194.out 1;have hfz10_2:=zf_ BK194.out 2;have hfz10_3:=zf_ BK194.out 3)|((with_reducible refine gate_callee (f:=55) rfl ?_);refine goesL_ (some 12) rfl rfl Try.func55 (by kernel_rfl) rfl #[.slice A0_2 l0_2.length c0_2] rfl zq_ ?_;(with_reducible refine (laws_toExprS.calls k _ _ l0_2 t195 _ ?side1 ?side2 A2.out).mono ?_);(case side1 => exact Kd.C_below HR0_2.out (by repeat (first|(with_reducible first|exact HB.out|apply za_|apply zn_|apply zd_|refine zs_ ?_ GE192.out|refine zs_ ?_ GE193.out|refine zs_ ?_ GE194.out)|exact HB.out)));(case side2 => exact HC0_2.out);rintro e w11 ⟨v196,rfl,ho0,hb⟩;refine ⟨_,rfl,?_⟩;have n0_:=zm_ (Kd.R_lower ho0 (below_size (by repeat (first|(with_reducible first|exact HB.out|apply za_|apply zn_|apply zd_|refine zs_ ?_ GE192.out|refine zs_ ?_ GE193.out|refine zs_ ?_ GE194.out)|exact HB.out))));have n1_:=zm_ (blk_below (g:=gb192) (o:=.cells #[.int .i64 a0_0,.string a0_1,.slice A0_2 l0_2.length c0_2,.string a0_3] 107 (0,0)) (by (with_reducible repeat first|refine zl_ ?_ _|refine zr_ ?_|refine zk_ ?_ _);refine blk_far ?_ NB192_194.out _;(with_reducible repeat first|refine zl_ ?_ _|refine zr_ ?_|refine zk_ ?_ _);refine blk_far ?_ NB192_194.out _;(with_reducible repeat first|refine zl_ ?_ _|refine zr_ ?_|refine zk_ ?_ _);exact BK192.out) hb);have n2_:=zm_ (blk_below (g:=gb193) (o:=.cells #[.int .i64 0,.string (⟨#[]⟩ : ByteArray),.slice none 0 0,.string (⟨#[]⟩ : ByteArray)] 110 (0,0)) (by (with_reducible repeat first|refine zl_ ?_ _|refine zr_ ?_|refine zk_ ?_ _);refine blk_far ?_ NB193_194.out _;(with_reducible repeat first|refine zl_ ?_ _|refine zr_ ?_|refine zk_ ?_ _);refine blk_far ?_ NB193_194.out _;(with_reducible repeat first|refine zl_ ?_ _|refine zr_ ?_|refine zk_ ?_ _);exact BK193.out) hb);have n3_:=zm_ (blk_below (g:=gb194) (o:=.cells #[.int .i64 a0_0,.string a0_1,.slice none 0 0,.string (⟨#[]⟩ : ByteArray)] 110 (0,0)) (by (with_reducible repeat first|refine zl_ ?_ _|refine zr_ ?_|refine zk_ ?_ _);refine blk_put (cs:=#[.int .i64 a0_0,.string (⟨#[]⟩ : ByteArray),.slice none 0 0,.string (⟨#[]⟩ : ByteArray)]) ?_ 1 _ rfl;(with_reducible repeat first|refine zl_ ?_ _|refine zr_ ?_|refine zk_ ?_ _);refine blk_put (cs:=#[.int .i64 0,.string (⟨#[]⟩ : ByteArray),.slice none 0 0,.string (⟨#[]⟩ : ByteArray)]) ?_ 0 _ rfl;(with_reducible repeat first|refine zl_ ?_ _|refine zr_ ?_|refine zk_ ?_ _);exact BK194.out) hb);have n4_:=zm_ (below_step (by repeat (first|(with_reducible first|exact HB.out|apply za_|apply zn_|apply zd_|refine zs_ ?_ GE192.out|refine zs_ ?_ GE193.out|refine zs_ ?_ GE194.out)|exact HB.out)) hb);clear BK192;clear BK193;clear BK194;clear HB;have HO197:=n0_;have BK192:=n1_;have BK193:=n2_;have BK194:=n3_;have HB:=n4_;clear n0_ n1_ n2_ n3_ n4_;(try clear hb);(try clear hb2);(try clear hk);(try clear hi);(try clear ho0);obtain ⟨Ao12,co12,eo12⟩:=Kd.R_slice HO197.out;subst eo12;have hcz13_0 : w11.cell? ⟨gb194,0,none⟩ = some (.int .i64 a0_0):=(zc_ BK194.out 0).trans rfl;have hcz13_1 : w11.cell? ⟨gb194,1,none⟩ = some (.string a0_1):=(zc_ BK194.out 1).trans rfl;have hcz13_2 : w11.cell? ⟨gb194,2,none⟩ = some (.slice none 0 0):=(zc_ BK194.out 2).trans rfl;have hcz13_3 : w11.cell? ⟨gb194,3,none⟩ = some (.string (⟨#[]⟩ : ByteArray)):=(zc_ BK194.out 3).trans rfl;have hfz13_0:=zf_ BK194.out 0;have hfz13_1:=zf_ BK194.out 1;have hfz13_2:=zf_ BK194.out 2;have hfz13_3:=zf_ BK194.out 3;have hcz14_0 : w11.cell? ⟨gb192,0,none⟩ = some (.int .i64 a0_0):=(zc_ BK192.out 0).trans rfl;have hcz14_1 : w11.cell? ⟨gb192,1,none⟩ = some (.string a0_1):=(zc_ BK192.out 1).trans rfl;have hcz14_2 : w11.cell? ⟨gb192,2,none⟩ = some (.slice A0_2 l0_2.length c0_2):=(zc_ BK192.out 2).trans rfl;have hcz14_3 : w11.cell? ⟨gb192,3,none⟩ = some (.string a0_3):=(zc_ BK192.out 3).trans rfl;have hfz14_0:=zf_ BK192.out 0;have hfz14_1:=zf_ BK192.out 1;have hfz14_2:=zf_ BK192.out 2;have hfz14_3:=zf_ BK192.out 3;have hcz15_0 : w11.cell? ⟨gb193,0,none⟩ = some (.int .i64 0):=(zc_ BK193.out 0).trans rfl;have hcz15_1 : w11.cell? ⟨gb193,1,none⟩ = some (.string (⟨#[]⟩ : ByteArray)):=(zc_ BK193.out 1).trans rfl;have hcz15_2 : w11.cell? ⟨gb193,2,none⟩ = some (.slice none 0 0):=(zc_ BK193.out 2).trans rfl;have hcz15_3 : w11.cell? ⟨gb193,3,none⟩ = some (.string (⟨#[]⟩ : ByteArray)):=(zc_ BK193.out 3).trans rfl;have hfz15_0:=zf_ BK193.out 0;have hfz15_1:=zf_ BK193.out 1;have hfz15_2:=zf_ BK193.out 2;have hfz15_3:=zf_ BK193.out 3))
 refine bodyPost_ret (results_cell_row rfl _ _ gb193 110 #[.int .i64 a0_0,.string a0_1,.slice Ao12 t195.length co12,.string a0_3] (0,0) _ rfl (by (with_reducible repeat first|refine zl_ ?_ _|refine zr_ ?_|refine zk_ ?_ _);refine blk_put (cs:=#[.int .i64 a0_0,.string a0_1,.slice Ao12 t195.length co12,.string (⟨#[]⟩ : ByteArray)]) ?_ 3 _ rfl;(with_reducible repeat first|refine zl_ ?_ _|refine zr_ ?_|refine zk_ ?_ _);refine blk_put (cs:=#[.int .i64 a0_0,.string a0_1,.slice none 0 0,.string (⟨#[]⟩ : ByteArray)]) ?_ 2 _ rfl;(with_reducible repeat first|refine zl_ ?_ _|refine zr_ ?_|refine zk_ ?_ _);refine blk_put (cs:=#[.int .i64 a0_0,.string (⟨#[]⟩ : ByteArray),.slice none 0 0,.string (⟨#[]⟩ : ByteArray)]) ?_ 1 _ rfl;(with_reducible repeat first|refine zl_ ?_ _|refine zr_ ?_|refine zk_ ?_ _);refine blk_put (cs:=#[.int .i64 0,.string (⟨#[]⟩ : ByteArray),.slice none 0 0,.string (⟨#[]⟩ : ByteArray)]) ?_ 0 _ rfl;(with_reducible repeat first|refine zl_ ?_ _|refine zr_ ?_|refine zk_ ?_ _);refine blk_far ?_ NB193_194.out _;(with_reducible repeat first|refine zl_ ?_ _|refine zr_ ?_|refine zk_ ?_ _);refine blk_far ?_ NB193_194.out _;(with_reducible repeat first|refine zl_ ?_ _|refine zr_ ?_|refine zk_ ?_ _);exact BK193.out) Try.underlying110 rfl (by kernel_rfl)) rfl ?_
 exact ⟨_,by first|rfl|(simp [errW_none,errW_some] <;> rfl)|(simp [*,errW_none,errW_some] <;> rfl),by (with_reducible repeat (first|apply Kd.R_alloc|apply Kd.R_drewN|apply Kd.R_drew));exact Kd.R_mono (Kd.R_far (p:=⟨gb193,3,none⟩) (Kd.R_far (p:=⟨gb193,2,none⟩) (Kd.R_far (p:=⟨gb193,1,none⟩) (Kd.R_far (p:=⟨gb193,0,none⟩) (Kd.R_far (p:=⟨gb194,3,none⟩) (Kd.R_far (p:=⟨gb194,2,none⟩) (Kd.R_types (Kd.R_types HO197.out BK194.out (by decide)) BK193.out (by decide)) (fun _ hk => hk.1.2) (.slice Ao12 t195.length co12)) (fun _ hk => hk.1.2) (.string a0_3)) (fun _ hk => hk.2) (.int .i64 a0_0)) (fun _ hk => hk.2) (.string a0_1)) (fun _ hk => hk.2) (.slice Ao12 t195.length co12)) (fun _ hk => hk.2) (.string a0_3)) (fun _ hk => trivial),by repeat (first|(with_reducible first|exact HB.out|apply za_|apply zn_|apply zd_|refine zs_ ?_ GE192.out|refine zs_ ?_ GE193.out|refine zs_ ?_ GE194.out)|exact HB.out)⟩

def laws_toSymS.l0 : Nat → List (S107) → List (S110) → Int → Option ((List (S110)))
 |0,_,_,_ => none
 |k + 1,x0,x3,x4 => if x4 < (x0.length : Int) then (if 0 ≤ x4 then ((laws_toSym.f k ((rd_T107 x0 x4).f0) ((rd_T107 x0 x4).f1) ((rd_T107 x0 x4).f2) ((rd_T107 x0 x4).f3)).bind fun bt202 => (if x4 < (x3.length : Int) then (laws_toSymS.l0 k x0 (x3.set (x4 : Int).toNat (⟨bt202.1,bt202.2.1,bt202.2.2.1,bt202.2.2.2⟩ : S110)) (wrap64 (x4 + 1))) else (none))) else (none)) else (some x3)
def laws_toSymS.f (k : Nat) (l0 : List (S107)) : Option ((List (S110))):=if 0 ≤ (l0.length : Int) then (if ((l0.length : Int) : Int).toNat ≤ 4398046511104 then (laws_toSymS.l0 k l0 (List.replicate ((l0.length : Int) : Int).toNat z110) 0) else (none)) else (none)
theorem laws_toSymS.mono_l : ∀ k,(∀ y0 y1 y2,LeO (laws_toSymS.l0 k y0 y1 y2) (laws_toSymS.l0 (k + 1) y0 y1 y2))
 |0 => fun _ _ _ r h => by simp [laws_toSymS.l0] at h
 |k + 1 => by
  have ih0:=laws_toSymS.mono_l k
  ·intro y0 y1 y2
   unfold laws_toSymS.l0
   repeat' first
   |(with_reducible exact ih0 _ _ _)
   |(with_reducible exact laws_toSym.mono _ _ _ _ _)
   |(with_reducible exact LeO.refl _)
   |(with_reducible exact LeO.none _)
   |(with_reducible refine LeO.ite ?_ ?_)
   |(with_reducible refine LeO.bind ?_ (fun _ => ?_))
theorem laws_toSymS.mono : ∀ a0 k,LeO (laws_toSymS.f k a0) (laws_toSymS.f (k + 1) a0):=by
 intro a0 k
 have ih0:=laws_toSymS.mono_l k
 unfold laws_toSymS.f
 repeat' first
   |(with_reducible exact ih0 _ _ _)
   |(with_reducible exact laws_toSym.mono _ _ _ _ _)
   |(with_reducible exact LeO.refl _)
   |(with_reducible exact LeO.none _)
   |(with_reducible refine LeO.ite ?_ ?_)
   |(with_reducible refine LeO.bind ?_ (fun _ => ?_))
set_option maxHeartbeats 8000000 in
set_option maxRecDepth 100000 in
theorem laws_toSymS.calls (k : Nat) (A0 : Option Addr) (c0 : Nat) (l0 : List (S107)) (r : List (S110)) (w : World) (hr0 : Kd.C k107 w A0 l0.length l0) (hc0 : l0.length ≤ c0) (h : laws_toSymS.f k l0 = some r) :
  Calls Try.prog 49 #[.slice A0 l0.length c0] w fun e w' => ∃ v0_ : Value,e = .returned (v0_) ∧ Kd.R k110 110 w' w.heap.size (fun _ => True) v0_ r ∧ Below w.heap.size w w':=by
 have hu107:=Try.underlying107
 have hu110:=Try.underlying110
 have HR0:=zm_ hr0
 have HC0:=zm_ hc0
 clear hr0 hc0
 have HB:=zm_ (Below.refl w.heap.size w)
 have H : (if 0 ≤ (l0.length : Int) then (if ((l0.length : Int) : Int).toNat ≤ 4398046511104 then (laws_toSymS.l0 k l0 (List.replicate ((l0.length : Int) : Int).toNat z110) 0) else (none)) else (none)) = some r:=h
 clear h
 by_cases c2 : 0 ≤ (l0.length : Int)
 ·rw [if_pos c2] at H
  have c2b0:=eq_true c2
  have c2b1 : decide (0 ≤ (l0.length : Int)) = true:=decide_eq_true c2
  clear c2
  by_cases c3 : ((l0.length : Int) : Int).toNat ≤ 4398046511104
  ·rw [if_pos c3] at H
   have c3b0:=eq_true c3
   have c3b1 : decide (((l0.length : Int) : Int).toNat ≤ 4398046511104) = true:=decide_eq_true c3
   clear c3
   obtain ⟨y198,hy198⟩ : ∃ y_ : List (S110),y_ = (List.replicate ((l0.length : Int) : Int).toNat z110):=⟨_,rfl⟩
   replace H : (laws_toSymS.l0 k l0 y198 0) = some r:=by first|(rw [hy198];with_reducible exact H)|(have H2_:=(Option.bind_some _ _).symm.trans H;rw [hy198];with_reducible exact H2_)|(have H2_:=(Option.bind_some _ _).symm.trans H;with_reducible exact H2_)|with_reducible exact H|(rw [hy198];exact H)|exact H
   have Ny198:=zm_ hy198
   clear hy198
   have H':=zm_ H
   clear H
   go_enter Try.func49,Try.ntmps49
   go_wp2_with (first|((with_reducible refine gate_dst (N:=7) rfl ?_);refine Kd.R_make k110 _ 110 rfl (N:=7) rfl 93 _ _ rfl (l0.length : Int) rfl rfl Try.underlying93 (.agg #[(.int .i64 0),(.string ⟨#[]⟩),(.slice none 0 0),(.string ⟨#[]⟩)]) 64 info110 rfl (by decide) (by omega) z110 (ok:=fun _ => True) (okp:=fun _ => True) (k110_mkM _ _ _ z110 (Kd.R_nil _ _ _ _ _)) (fun _ hk => hk) trivial (zo_) (Nat.le_trans (Nat.mul_le_mul_right _ (zo_ : (l0.length : Int).toNat ≤ 4398046511104)) (by omega)) (Below.refl _ _) (Nat.le_refl _) ?_;intro v199 w4 ho5 hb hg_ hnew_;clear hg_ hnew_;(first|rw [← Ny198.out] at ho5|(simp only [Int.reduceToNat] at ho5;rw [← Ny198.out] at ho5));have n0_:=zm_ (Kd.R_lower ho5 (below_size zB_));have n1_:=zm_ (below_step zB_ hb);clear HB;have HO200:=n0_;have HB:=n1_;clear n0_ n1_;clear hb ho5))
   go_loopg [4] k (fun kq v4 w' => ∃ (x3_1 : List (S110)) (x4_1 : Int),v4 = .int .i64 x4_1 ∧ Aside0 (laws_toSymS.l0 kq l0 x3_1 x4_1 = some r) ∧ Aside0 (kq ≤ k) ∧ Aside0 (Kd.R k110 110 w' w.heap.size (fun _ => True) v199 x3_1) ∧ Aside0 (Below w.heap.size w w'))
   case atStart => exact ⟨(y198),(0),zV_,H',⟨Nat.le_refl _⟩,⟨by (with_reducible repeat (first|apply Kd.R_alloc|apply Kd.R_drewN|apply Kd.R_drew));exact HO200.out⟩,⟨by repeat (first|(with_reducible first|exact HB.out|apply za_|apply zn_|apply zd_)|exact HB.out)⟩⟩
   case round =>
    clear H'
    try clear c2
    try clear c2b0
    try clear c2b1
    try clear p2
    try clear c3
    try clear c3b0
    try clear c3b1
    try clear c4
    obtain ⟨x3_1,x4_1,rfl,HA,HK1,HO_3,HB⟩:=hrel
    cases gk with
    |zero => exact absurd HA.out (by simp [laws_toSymS.l0])
    |succ k1 =>
     have H:=HA.out
     clear HA
     simp only [laws_toSymS.l0] at H
     by_cases c6 : x4_1 < (l0.length : Int)
     ·rw [if_pos c6] at H
      have c6b0 : decide (x4_1 < (l0.length : Int)) = true:=decide_eq_true c6
      clear c6
      by_cases c7 : 0 ≤ x4_1
      ·rw [if_pos c7] at H
       have c7b0 : decide (0 ≤ x4_1) = true:=decide_eq_true c7
       clear c7
       replace H:=Option.bind_eq_some_iff.mp H
       obtain ⟨⟨t202,t203,t204,t207⟩,A80,H⟩:=H
       replace H : (if x4_1 < (x3_1.length : Int) then (laws_toSymS.l0 k1 l0 (x3_1.set (x4_1 : Int).toNat (⟨t202,t203,t204,t207⟩ : S110)) (wrap64 (x4_1 + 1))) else (none)) = some r:=H
       have A8:=zm_ A80
       clear A80
       by_cases c9 : x4_1 < (x3_1.length : Int)
       ·rw [if_pos c9] at H
        have c9b0 : decide (x4_1 < (x3_1.length : Int)) = true:=decide_eq_true c9
        clear c9
        obtain ⟨y208,hy208⟩ : ∃ y_ : List (S110),y_ = (x3_1.set (x4_1 : Int).toNat (⟨t202,t203,t204,t207⟩ : S110)):=⟨_,rfl⟩
        replace H : (laws_toSymS.l0 k1 l0 y208 (wrap64 (x4_1 + 1))) = some r:=by first|(rw [hy208];with_reducible exact H)|(have H2_:=(Option.bind_some _ _).symm.trans H;rw [hy208];with_reducible exact H2_)|(have H2_:=(Option.bind_some _ _).symm.trans H;with_reducible exact H2_)|with_reducible exact H|(rw [hy208];exact H)|exact H
        have Ny208:=zm_ hy208
        clear hy208
        have H':=zm_ H
        clear H
        have p201 : 0 ≤ (x4_1 : Int):=zo_
        have q201 : x4_1 < (l0.length : Int):=zo_
        obtain ⟨ad201,A201_2,c201_2,e201,hx201_0,hx201_1,hx201_2,hx201_3,hl201_2,hi201_2⟩:=at_T107 HR0.out x4_1 p201 q201
        cases e201
        replace hx201_0:=(HB.out.cell (zb_ w _ hx201_0)).trans hx201_0
        replace hx201_1:=(HB.out.cell (zb_ w _ hx201_1)).trans hx201_1
        replace hx201_2:=(HB.out.cell (zb_ w _ hx201_2)).trans hx201_2
        replace hx201_3:=(HB.out.cell (zb_ w _ hx201_3)).trans hx201_3
        have HR201_2:=zm_ hi201_2
        have HC201_2:=zm_ hl201_2
        clear hi201_2 hl201_2
        replace p201:=eq_true p201
        replace q201:=eq_true q201
        go_wp2_with (first|((with_reducible refine gate_callee (f:=52) rfl ?_);refine goesL_ (some 20) rfl rfl Try.func52 (by kernel_rfl) rfl #[.agg #[.int .i64 ((rd_T107 l0 x4_1).f0),.string ((rd_T107 l0 x4_1).f1),.slice A201_2 ((rd_T107 l0 x4_1).f2).length c201_2,.string ((rd_T107 l0 x4_1).f3)]] rfl zq_ ?_;(with_reducible refine (laws_toSym.calls k1 ((rd_T107 l0 x4_1).f0) ((rd_T107 l0 x4_1).f1) _ _ ((rd_T107 l0 x4_1).f2) ((rd_T107 l0 x4_1).f3) t202 t203 t204 t207 _ ?side1 ?side2 A8.out).mono ?_);(case side1 => repeat (first|exact (Kd.C_below HR201_2.out HB.out)|(with_reducible refine Kd.C_alloc ?_ _)|(with_reducible refine Kd.C_drewN ?_ _)|(with_reducible refine Kd.C_drew ?_)));(case side2 => exact HC201_2.out);rintro e w11 ⟨v205,rfl,ho0,hb⟩;refine ⟨_,rfl,?_⟩;have n0_:=zm_ (Kd.R_elder' (by (with_reducible repeat (first|apply Kd.R_alloc|apply Kd.R_drewN|apply Kd.R_drew));exact HO_3.out) (Kd.R_base ho0) hb);have n1_:=zm_ (Kd.R_lower ho0 (below_size zB_));have n2_:=zm_ (below_step zB_ hb);clear HO_3;clear HB;have HO_3:=n0_;have HO206:=n1_;have HB:=n2_;clear n0_ n1_ n2_;(try clear hb);(try clear hb2);(try clear hk);(try clear hi);(try clear ho0);have p10 : 0 ≤ (x4_1 : Int):=zo_;have q10 : (x4_1 : Int) < ((x3_1.length : Int) : Int):=zo_;obtain ⟨go10,co10,eo10,gb10,gl10,cl10,HG10⟩:=Kd.R_form HO_3.out (by omega);(first|cases eo10|(injection eo10 with ea_ en_ ec_;(first|subst ea_|(injection ea_ with ea_;subst ea_));subst ec_;clear en_));have GB10:=zm_ gb10;have GG10:=zm_ HG10;clear gb10 gl10 HG10;obtain ⟨ce10,hcl10,hM10,hcc10,hfr10⟩:=Kd.R_elem HO_3.out z110 (x4_1 : Int) p10 q10;obtain ⟨ve10_2,rfl,ge10_2⟩:=k110_openM hM10;have hx10_0 : w11.cell? ⟨go10,(x4_1 : Int).toNat * 4,none⟩ = some (.int .i64 ((rd_T110 x3_1 x4_1).f0)):=hcc10 0 _ rfl;have hx10_1 : w11.cell? ⟨go10,(x4_1 : Int).toNat * 4 + 1,none⟩ = some (.string ((rd_T110 x3_1 x4_1).f1)):=hcc10 1 _ rfl;have hx10_2 : w11.cell? ⟨go10,(x4_1 : Int).toNat * 4 + 2,none⟩ = some (ve10_2):=hcc10 2 _ rfl;have hx10_3 : w11.cell? ⟨go10,(x4_1 : Int).toNat * 4 + 3,none⟩ = some (.string ((rd_T110 x3_1 x4_1).f3)):=hcc10 3 _ rfl;have hf10_0 : w11.frozen? ⟨go10,(x4_1 : Int).toNat * 4,none⟩ = false:=hfr10 0;have hf10_1 : w11.frozen? ⟨go10,(x4_1 : Int).toNat * 4 + 1,none⟩ = false:=hfr10 1;have hf10_2 : w11.frozen? ⟨go10,(x4_1 : Int).toNat * 4 + 2,none⟩ = false:=hfr10 2;have hf10_3 : w11.frozen? ⟨go10,(x4_1 : Int).toNat * 4 + 3,none⟩ = false:=hfr10 3;clear hcl10 hcc10 hfr10 hM10;replace p10:=eq_true p10;replace q10:=eq_true q10;have n_:=zm_ (Kd.R_mono (ok':=(fun k_ => some k_ ≠ (v205 : Value).ownBlock)) HO_3.out (fun k_ hk => hk.2));clear HO_3;have HO_3:=n_;clear n_;have HX12:=zm_ (show Kd.R k110 110 w11 w.heap.size (fun _ => True) (.slice (some ⟨go10,0,none⟩) x3_1.length co10) x3_1 from (by (with_reducible repeat (first|apply Kd.R_alloc|apply Kd.R_drewN|apply Kd.R_drew));exact Kd.R_mono HO_3.out (fun _ hk => trivial)));obtain ⟨ce12,hcl12,hM12,hcc12,hfr12⟩:=Kd.R_elem HX12.out z110 (x4_1 : Int) (zo_) (by have h_ : (x4_1 : Int) < ((x3_1.length : Int) : Int):=zo_;first|exact h_|(have e_:=(Kd.R_reads' HO_3.out).1;omega)|simpa using h_);obtain ⟨ve12_2,rfl,ge12_2⟩:=k110_openM hM12;have HP12:=Kd.R_seg HX12.out (x4_1 : Int) (zo_) (by have h_ : (x4_1 : Int) < ((x3_1.length : Int) : Int):=zo_;first|exact h_|(have e_:=(Kd.R_reads' HO_3.out).1;omega)|simpa using h_) (seg:=[.int .i64 t202,.string t203,v205,.string t207]) (j:=0) hcl12 hcc12 (show 4 ≤ 4 from by decide) (x':=(⟨t202,t203,t204,t207⟩ : S110)) (k110_mkM _ _ _ (⟨t202,t203,t204,t207⟩ : S110) (Kd.R_mono (Kd.R_apart' (HO206.out) (Kd.R_typed HO_3.out) (by decide)) (fun k_ hk => ⟨trivial,fun e_ => (hk.2) (by rw [e_];rfl)⟩))) (fun _ hk => hk);have hx12_0:=hcc12 0 _ rfl;(try simp only [show (k110).sz = 4 from rfl,Nat.mul_one,Nat.add_zero] at hx12_0);have hf12_0:=hfr12 0;(try simp only [show (k110).sz = 4 from rfl,Nat.mul_one,Nat.add_zero] at hf12_0);have hx12_1:=hcc12 1 _ rfl;(try simp only [show (k110).sz = 4 from rfl,Nat.mul_one,Nat.add_zero] at hx12_1);have hf12_1:=hfr12 1;(try simp only [show (k110).sz = 4 from rfl,Nat.mul_one,Nat.add_zero] at hf12_1);have hx12_2:=hcc12 2 _ rfl;(try simp only [show (k110).sz = 4 from rfl,Nat.mul_one,Nat.add_zero] at hx12_2);have hf12_2:=hfr12 2;(try simp only [show (k110).sz = 4 from rfl,Nat.mul_one,Nat.add_zero] at hf12_2);have hx12_3:=hcc12 3 _ rfl;(try simp only [show (k110).sz = 4 from rfl,Nat.mul_one,Nat.add_zero] at hx12_3);have hf12_3:=hfr12 3;(try simp only [show (k110).sz = 4 from rfl,Nat.mul_one,Nat.add_zero] at hf12_3);clear hcl12 hcc12 hfr12 hM12)|((with_reducible refine gate_store (t:=110) (p:=21) rfl ?_);(first|have st2_:=store_own (P:=Try.prog) HO206.out|have st2_:=store_own (P:=Try.prog) (Kd.S_R HO206.out));refine store_event (t:=110) (p:=21) (v:=?vo_w13) (w1:=((((w11.setCell ⟨go10,(x4_1 : Int).toNat * 4,none⟩ (.int .i64 t202)).setCell ⟨go10,(x4_1 : Int).toNat * 4 + 1,none⟩ (.string t203)).setCell ⟨go10,(x4_1 : Int).toNat * 4 + 2,none⟩ (v205)).setCell ⟨go10,(x4_1 : Int).toNat * 4 + 3,none⟩ (.string t207))) ?hg ?ho ?hn ?hr ?_;(case ho => rfl);(case hg => rfl);(case hn => rfl);(case hr => first|(go_simp;done)|(go_simp;rfl));intro w13 hw;have hg : w11.grownBy w13 (some go10):=(by rw [hw];exact HP12.2);have hp_ : Kd.R k110 110 w13 w.heap.size (fun _ => True) (.slice (some ⟨go10,0,none⟩) x3_1.length co10) y208:=(by rw [hw,Ny208.out];exact HP12.1);clear HP12;have n0_:=zm_ (hp_);have n1_:=zm_ ((by rw [hw];exact zs_ (zs_ (zs_ (zs_ (HB.out) GB10.out) GB10.out) GB10.out) GB10.out : Below w.heap.size w w13));clear HO_3;clear HB;clear HO206;have HO_3:=n0_;have HB:=n1_;clear n0_ n1_;clear hg hw hp_))
        go_roundg k1
        case measure => have:=HK1.out;omega
        case rel => exact ⟨(y208),(wrap64 (x4_1 + 1)),zV_,H',⟨by have:=HK1.out;omega⟩,⟨by (with_reducible repeat (first|apply Kd.R_alloc|apply Kd.R_drewN|apply Kd.R_drew));exact HO_3.out⟩,⟨by repeat (first|(with_reducible first|exact HB.out|apply za_|apply zn_|apply zd_)|exact HB.out)⟩⟩
       ·rw [if_neg c9] at H
        exact absurd H (by simp)
      ·rw [if_neg c7] at H
       exact absurd H (by simp)
     ·rw [if_neg c6] at H
      have c6b0 : decide (x4_1 < (l0.length : Int)) = false:=decide_eq_false c6
      clear c6
      obtain rfl:=Option.some.inj H
      go_wp2
      go_ret
      exact ⟨_,by first|rfl|(simp [errW_none,errW_some] <;> rfl)|(simp [*,errW_none,errW_some] <;> rfl),by (with_reducible repeat (first|apply Kd.R_alloc|apply Kd.R_drewN|apply Kd.R_drew));exact HO_3.out,by repeat (first|(with_reducible first|exact HB.out|apply za_|apply zn_|apply zd_)|exact HB.out)⟩
  ·rw [if_neg c3] at H
   exact absurd H (by simp)
 ·rw [if_neg c2] at H
  exact absurd H (by simp)

def laws_toAlt.f (k : Nat) (l0_0 : List (S107)) : Option ((List (S110))):=(laws_toSymS.f k l0_0).bind fun t212 => (some t212)
theorem laws_toAlt.mono : ∀ a0 k,LeO (laws_toAlt.f k a0) (laws_toAlt.f (k + 1) a0):=by
 intro a0 k
 unfold laws_toAlt.f
 repeat' first
   |(with_reducible exact laws_toSymS.mono _ _)
   |(with_reducible exact LeO.refl _)
   |(with_reducible exact LeO.none _)
   |(with_reducible refine LeO.ite ?_ ?_)
   |(with_reducible refine LeO.bind ?_ (fun _ => ?_))
set_option maxHeartbeats 8000000 in
set_option maxRecDepth 100000 in
theorem laws_toAlt.calls (k : Nat) (A0_0 : Option Addr) (c0_0 : Nat) (l0_0 : List (S107)) (r : List (S110)) (w : World) (hr0_0 : Kd.C k107 w A0_0 l0_0.length l0_0) (hc0_0 : l0_0.length ≤ c0_0) (h : laws_toAlt.f k l0_0 = some r) :
  Calls Try.prog 44 #[.agg #[.slice A0_0 l0_0.length c0_0]] w fun e w' => ∃ v0_ : Value,e = .returned (.agg #[v0_]) ∧ Kd.R k110 110 w' w.heap.size (fun _ => True) v0_ r ∧ Below w.heap.size w w':=by
 have hu92:=Try.underlying92
 have hu95:=Try.underlying95
 have HR0_0:=zm_ hr0_0
 have HC0_0:=zm_ hc0_0
 clear hr0_0 hc0_0
 have HB:=zm_ (Below.refl w.heap.size w)
 have H : ((laws_toSymS.f k l0_0).bind fun t212 => (some t212)) = some r:=h
 clear h
 replace H:=Option.bind_eq_some_iff.mp H
 obtain ⟨t212,A20,H⟩:=H
 replace H : (some t212) = some r:=H
 have A2:=zm_ A20
 clear A20
 obtain rfl:=Option.some.inj H
 go_enter Try.func44,Try.ntmps44
 go_wp2_with (first|((with_reducible refine gate_dst (N:=1) rfl ?_);refine box_event ?hg (N:=1) ?hd (cs:=#[.slice A0_0 l0_0.length c0_0]) (t:=92) ?hr ?_;(case hd => rfl);(case hg => rfl);(case hr => first|(go_simp;done)|(go_simp;rfl));intro gb209 hg w3 hbox hb;have n0_:=zm_ (below_step zB_ hb);have n1_:=zm_ (hbox);have n2_:=zm_ ((by rw [hg];exact (below_size zB_) : w.heap.size ≤ gb209));have n3_:=zm_ ((by rw [hg];exact (below_size zB_) : w.heap.size ≤ gb209));clear HB;have HB:=n0_;have BK209:=n1_;have GW209:=n2_;have GE209:=n3_;clear n0_ n1_ n2_ n3_;clear hb hbox hg)|((with_reducible refine gate_dst (N:=2) rfl ?_);refine box_event ?hg (N:=2) ?hd (cs:=#[.slice none 0 0]) (t:=95) ?hr ?_;(case hd => rfl);(case hg => rfl);(case hr => first|(go_simp;done)|(go_simp;rfl));intro gb210 hg w4 hbox hb;have n0_:=zm_ (blk_below (g:=gb209) (o:=.cells #[.slice A0_0 l0_0.length c0_0] 92 (0,0)) (by (with_reducible repeat first|refine zl_ ?_ _|refine zr_ ?_|refine zk_ ?_ _);exact BK209.out) hb);have n1_:=zm_ (below_step (by repeat (first|(with_reducible first|exact HB.out|apply za_|apply zn_|apply zd_|refine zs_ ?_ GE209.out)|exact HB.out)) hb);have n2_:=zm_ (hbox);have n3_:=zm_ ((by rw [hg];exact (below_size (by repeat (first|(with_reducible first|exact HB.out|apply za_|apply zn_|apply zd_|refine zs_ ?_ GE209.out)|exact HB.out))) : w.heap.size ≤ gb210));have n4_:=zm_ ((by rw [hg];exact (below_size (by repeat (first|(with_reducible first|exact HB.out|apply za_|apply zn_|apply zd_|refine zs_ ?_ GE209.out)|exact HB.out))) : w.heap.size ≤ gb210));have n5_:=zm_ ((by rw [hg];exact Nat.ne_of_lt (blk_lt (g:=gb209) (o:=.cells #[.slice A0_0 l0_0.length c0_0] 92 (0,0)) (by (with_reducible repeat first|refine zl_ ?_ _|refine zr_ ?_|refine zk_ ?_ _);exact BK209.out)) : gb209 ≠ gb210));have n6_:=zm_ ((by rw [hg];exact Nat.ne_of_gt (blk_lt (g:=gb209) (o:=.cells #[.slice A0_0 l0_0.length c0_0] 92 (0,0)) (by (with_reducible repeat first|refine zl_ ?_ _|refine zr_ ?_|refine zk_ ?_ _);exact BK209.out)) : gb210 ≠ gb209));clear BK209;clear HB;have BK209:=n0_;have HB:=n1_;have BK210:=n2_;have GW210:=n3_;have GE210:=n4_;have NB209_210:=n5_;have NB210_209:=n6_;clear n0_ n1_ n2_ n3_ n4_ n5_ n6_;clear hb hbox hg)|((with_reducible refine gate_dst (N:=3) rfl ?_);refine box_event ?hg (N:=3) ?hd (cs:=#[.slice none 0 0]) (t:=95) ?hr ?_;(case hd => rfl);(case hg => rfl);(case hr => first|(go_simp;done)|(go_simp;rfl));intro gb211 hg w5 hbox hb;have n0_:=zm_ (blk_below (g:=gb209) (o:=.cells #[.slice A0_0 l0_0.length c0_0] 92 (0,0)) (by (with_reducible repeat first|refine zl_ ?_ _|refine zr_ ?_|refine zk_ ?_ _);exact BK209.out) hb);have n1_:=zm_ (blk_below (g:=gb210) (o:=.cells #[.slice none 0 0] 95 (0,0)) (by (with_reducible repeat first|refine zl_ ?_ _|refine zr_ ?_|refine zk_ ?_ _);exact BK210.out) hb);have n2_:=zm_ (below_step (by repeat (first|(with_reducible first|exact HB.out|apply za_|apply zn_|apply zd_|refine zs_ ?_ GE209.out|refine zs_ ?_ GE210.out)|exact HB.out)) hb);have n3_:=zm_ (hbox);have n4_:=zm_ ((by rw [hg];exact (below_size (by repeat (first|(with_reducible first|exact HB.out|apply za_|apply zn_|apply zd_|refine zs_ ?_ GE209.out|refine zs_ ?_ GE210.out)|exact HB.out))) : w.heap.size ≤ gb211));have n5_:=zm_ ((by rw [hg];exact (below_size (by repeat (first|(with_reducible first|exact HB.out|apply za_|apply zn_|apply zd_|refine zs_ ?_ GE209.out|refine zs_ ?_ GE210.out)|exact HB.out))) : w.heap.size ≤ gb211));have n6_:=zm_ ((by rw [hg];exact Nat.ne_of_lt (blk_lt (g:=gb209) (o:=.cells #[.slice A0_0 l0_0.length c0_0] 92 (0,0)) (by (with_reducible repeat first|refine zl_ ?_ _|refine zr_ ?_|refine zk_ ?_ _);exact BK209.out)) : gb209 ≠ gb211));have n7_:=zm_ ((by rw [hg];exact Nat.ne_of_gt (blk_lt (g:=gb209) (o:=.cells #[.slice A0_0 l0_0.length c0_0] 92 (0,0)) (by (with_reducible repeat first|refine zl_ ?_ _|refine zr_ ?_|refine zk_ ?_ _);exact BK209.out)) : gb211 ≠ gb209));have n8_:=zm_ ((by rw [hg];exact Nat.ne_of_lt (blk_lt (g:=gb210) (o:=.cells #[.slice none 0 0] 95 (0,0)) (by (with_reducible repeat first|refine zl_ ?_ _|refine zr_ ?_|refine zk_ ?_ _);exact BK210.out)) : gb210 ≠ gb211));have n9_:=zm_ ((by rw [hg];exact Nat.ne_of_gt (blk_lt (g:=gb210) (o:=.cells #[.slice none 0 0] 95 (0,0)) (by (with_reducible repeat first|refine zl_ ?_ _|refine zr_ ?_|refine zk_ ?_ _);exact BK210.out)) : gb211 ≠ gb210));clear BK209;clear BK210;clear HB;have BK209:=n0_;have BK210:=n1_;have HB:=n2_;have BK211:=n3_;have GW211:=n4_;have GE211:=n5_;have NB209_211:=n6_;have NB211_209:=n7_;have NB210_211:=n8_;have NB211_210:=n9_;clear n0_ n1_ n2_ n3_ n4_ n5_ n6_ n7_ n8_ n9_;clear hb hbox hg;have hnb6:=NB209_210.out;have hnc6:=NB210_209.out;have hnb7:=NB209_211.out;have hnc7:=NB211_209.out;have hcz8_0 : w5.cell? ⟨gb209,0,none⟩ = some (.slice A0_0 l0_0.length c0_0):=(zc_ BK209.out 0).trans rfl;have hfz8_0:=zf_ BK209.out 0)|((with_reducible refine gate_callee (f:=49) rfl ?_);refine goesL_ (some 6) rfl rfl Try.func49 (by kernel_rfl) rfl #[.slice A0_0 l0_0.length c0_0] rfl zq_ ?_;(with_reducible refine (laws_toSymS.calls k _ _ l0_0 t212 _ ?side1 ?side2 A2.out).mono ?_);(case side1 => repeat (first|exact (Kd.C_below HR0_0.out HB.out)|(with_reducible refine Kd.C_alloc ?_ _)|(with_reducible refine Kd.C_drewN ?_ _)|(with_reducible refine Kd.C_drew ?_)));(case side2 => exact HC0_0.out);rintro e w9 ⟨v213,rfl,ho0,hb⟩;refine ⟨_,rfl,?_⟩;have n0_:=zm_ (Kd.R_lower ho0 (below_size (by repeat (first|(with_reducible first|exact HB.out|apply za_|apply zn_|apply zd_|refine zs_ ?_ GE209.out|refine zs_ ?_ GE210.out|refine zs_ ?_ GE211.out)|exact HB.out))));have n1_:=zm_ (blk_below (g:=gb209) (o:=.cells #[.slice A0_0 l0_0.length c0_0] 92 (0,0)) (by (with_reducible repeat first|refine zl_ ?_ _|refine zr_ ?_|refine zk_ ?_ _);exact BK209.out) hb);have n2_:=zm_ (blk_below (g:=gb210) (o:=.cells #[.slice none 0 0] 95 (0,0)) (by (with_reducible repeat first|refine zl_ ?_ _|refine zr_ ?_|refine zk_ ?_ _);exact BK210.out) hb);have n3_:=zm_ (blk_below (g:=gb211) (o:=.cells #[.slice none 0 0] 95 (0,0)) (by (with_reducible repeat first|refine zl_ ?_ _|refine zr_ ?_|refine zk_ ?_ _);exact BK211.out) hb);have n4_:=zm_ (below_step (by repeat (first|(with_reducible first|exact HB.out|apply za_|apply zn_|apply zd_|refine zs_ ?_ GE209.out|refine zs_ ?_ GE210.out|refine zs_ ?_ GE211.out)|exact HB.out)) hb);clear BK209;clear BK210;clear BK211;clear HB;have HO214:=n0_;have BK209:=n1_;have BK210:=n2_;have BK211:=n3_;have HB:=n4_;clear n0_ n1_ n2_ n3_ n4_;(try clear hb);(try clear hb2);(try clear hk);(try clear hi);(try clear ho0);obtain ⟨Ao10,co10,eo10⟩:=Kd.R_slice HO214.out;subst eo10;have hnb11:=NB211_210.out;have hnc11:=NB210_211.out;have hcz12_0 : w9.cell? ⟨gb211,0,none⟩ = some (.slice none 0 0):=(zc_ BK211.out 0).trans rfl;have hfz12_0:=zf_ BK211.out 0;have hcz13_0 : w9.cell? ⟨gb210,0,none⟩ = some (.slice none 0 0):=(zc_ BK210.out 0).trans rfl;have hfz13_0:=zf_ BK210.out 0))
 refine bodyPost_ret (results_cell_row rfl _ _ gb210 95 #[.slice Ao10 t212.length co10] (0,0) _ rfl (by (with_reducible repeat first|refine zl_ ?_ _|refine zr_ ?_|refine zk_ ?_ _);refine blk_put (cs:=#[.slice none 0 0]) ?_ 0 _ rfl;(with_reducible repeat first|refine zl_ ?_ _|refine zr_ ?_|refine zk_ ?_ _);refine blk_far ?_ NB210_211.out _;(with_reducible repeat first|refine zl_ ?_ _|refine zr_ ?_|refine zk_ ?_ _);exact BK210.out) Try.underlying95 rfl (by kernel_rfl)) rfl ?_
 exact ⟨_,by first|rfl|(simp [errW_none,errW_some] <;> rfl)|(simp [*,errW_none,errW_some] <;> rfl),by (with_reducible repeat (first|apply Kd.R_alloc|apply Kd.R_drewN|apply Kd.R_drew));exact Kd.R_mono (Kd.R_far (p:=⟨gb210,0,none⟩) (Kd.R_far (p:=⟨gb211,0,none⟩) (Kd.R_types (Kd.R_types HO214.out BK211.out (by decide)) BK210.out (by decide)) (fun _ hk => hk.1.2) (.slice Ao10 t212.length co10)) (fun _ hk => hk.2) (.slice Ao10 t212.length co10)) (fun _ hk => trivial),by repeat (first|(with_reducible first|exact HB.out|apply za_|apply zn_|apply zd_|refine zs_ ?_ GE209.out|refine zs_ ?_ GE210.out|refine zs_ ?_ GE211.out)|exact HB.out)⟩

def laws_toAltS.l0 : Nat → List (S92) → List (S95) → Int → Option ((List (S95)))
 |0,_,_,_ => none
 |k + 1,x0,x3,x4 => if x4 < (x0.length : Int) then (if 0 ≤ x4 then ((laws_toAlt.f k ((rd_T92 x0 x4).f0)).bind fun t219 => (if x4 < (x3.length : Int) then (laws_toAltS.l0 k x0 (x3.set (x4 : Int).toNat (⟨t219⟩ : S95)) (wrap64 (x4 + 1))) else (none))) else (none)) else (some x3)
def laws_toAltS.f (k : Nat) (l0 : List (S92)) : Option ((List (S95))):=if 0 ≤ (l0.length : Int) then (if ((l0.length : Int) : Int).toNat ≤ 11728124029610 then (laws_toAltS.l0 k l0 (List.replicate ((l0.length : Int) : Int).toNat z95) 0) else (none)) else (none)
theorem laws_toAltS.mono_l : ∀ k,(∀ y0 y1 y2,LeO (laws_toAltS.l0 k y0 y1 y2) (laws_toAltS.l0 (k + 1) y0 y1 y2))
 |0 => fun _ _ _ r h => by simp [laws_toAltS.l0] at h
 |k + 1 => by
  have ih0:=laws_toAltS.mono_l k
  ·intro y0 y1 y2
   unfold laws_toAltS.l0
   repeat' first
   |(with_reducible exact ih0 _ _ _)
   |(with_reducible exact laws_toAlt.mono _ _)
   |(with_reducible exact LeO.refl _)
   |(with_reducible exact LeO.none _)
   |(with_reducible refine LeO.ite ?_ ?_)
   |(with_reducible refine LeO.bind ?_ (fun _ => ?_))
theorem laws_toAltS.mono : ∀ a0 k,LeO (laws_toAltS.f k a0) (laws_toAltS.f (k + 1) a0):=by
 intro a0 k
 have ih0:=laws_toAltS.mono_l k
 unfold laws_toAltS.f
 repeat' first
   |(with_reducible exact ih0 _ _ _)
   |(with_reducible exact laws_toAlt.mono _ _)
   |(with_reducible exact LeO.refl _)
   |(with_reducible exact LeO.none _)
   |(with_reducible refine LeO.ite ?_ ?_)
   |(with_reducible refine LeO.bind ?_ (fun _ => ?_))
set_option maxHeartbeats 8000000 in
set_option maxRecDepth 100000 in
theorem laws_toAltS.calls (k : Nat) (A0 : Option Addr) (c0 : Nat) (l0 : List (S92)) (r : List (S95)) (w : World) (hr0 : Kd.C k92 w A0 l0.length l0) (hc0 : l0.length ≤ c0) (h : laws_toAltS.f k l0 = some r) :
  Calls Try.prog 36 #[.slice A0 l0.length c0] w fun e w' => ∃ v0_ : Value,e = .returned (v0_) ∧ Kd.R k95 95 w' w.heap.size (fun _ => True) v0_ r ∧ Below w.heap.size w w':=by
 have hu92:=Try.underlying92
 have hu95:=Try.underlying95
 have HR0:=zm_ hr0
 have HC0:=zm_ hc0
 clear hr0 hc0
 have HB:=zm_ (Below.refl w.heap.size w)
 have H : (if 0 ≤ (l0.length : Int) then (if ((l0.length : Int) : Int).toNat ≤ 11728124029610 then (laws_toAltS.l0 k l0 (List.replicate ((l0.length : Int) : Int).toNat z95) 0) else (none)) else (none)) = some r:=h
 clear h
 by_cases c2 : 0 ≤ (l0.length : Int)
 ·rw [if_pos c2] at H
  have c2b0:=eq_true c2
  have c2b1 : decide (0 ≤ (l0.length : Int)) = true:=decide_eq_true c2
  clear c2
  by_cases c3 : ((l0.length : Int) : Int).toNat ≤ 11728124029610
  ·rw [if_pos c3] at H
   have c3b0:=eq_true c3
   have c3b1 : decide (((l0.length : Int) : Int).toNat ≤ 11728124029610) = true:=decide_eq_true c3
   clear c3
   obtain ⟨y215,hy215⟩ : ∃ y_ : List (S95),y_ = (List.replicate ((l0.length : Int) : Int).toNat z95):=⟨_,rfl⟩
   replace H : (laws_toAltS.l0 k l0 y215 0) = some r:=by first|(rw [hy215];with_reducible exact H)|(have H2_:=(Option.bind_some _ _).symm.trans H;rw [hy215];with_reducible exact H2_)|(have H2_:=(Option.bind_some _ _).symm.trans H;with_reducible exact H2_)|with_reducible exact H|(rw [hy215];exact H)|exact H
   have Ny215:=zm_ hy215
   clear hy215
   have H':=zm_ H
   clear H
   go_enter Try.func36,Try.ntmps36
   go_wp2_with (first|((with_reducible refine gate_dst (N:=7) rfl ?_);refine Kd.R_make k95 _ 95 rfl (N:=7) rfl 49 _ _ rfl (l0.length : Int) rfl rfl Try.underlying49 (.agg #[(.slice none 0 0)]) 24 info95 rfl (by decide) (by omega) z95 (ok:=fun _ => True) (okp:=fun _ => True) (k95_mkM _ _ _ z95 (Kd.R_nil _ _ _ _ _)) (fun _ hk => hk) trivial (zo_) (Nat.le_trans (Nat.mul_le_mul_right _ (zo_ : (l0.length : Int).toNat ≤ 11728124029610)) (by omega)) (Below.refl _ _) (Nat.le_refl _) ?_;intro v216 w4 ho5 hb hg_ hnew_;clear hg_ hnew_;(first|rw [← Ny215.out] at ho5|(simp only [Int.reduceToNat] at ho5;rw [← Ny215.out] at ho5));have n0_:=zm_ (Kd.R_lower ho5 (below_size zB_));have n1_:=zm_ (below_step zB_ hb);clear HB;have HO217:=n0_;have HB:=n1_;clear n0_ n1_;clear hb ho5))
   go_loopg [4] k (fun kq v4 w' => ∃ (x3_1 : List (S95)) (x4_1 : Int),v4 = .int .i64 x4_1 ∧ Aside0 (laws_toAltS.l0 kq l0 x3_1 x4_1 = some r) ∧ Aside0 (kq ≤ k) ∧ Aside0 (Kd.R k95 95 w' w.heap.size (fun _ => True) v216 x3_1) ∧ Aside0 (Below w.heap.size w w'))
   case atStart => exact ⟨(y215),(0),zV_,H',⟨Nat.le_refl _⟩,⟨by (with_reducible repeat (first|apply Kd.R_alloc|apply Kd.R_drewN|apply Kd.R_drew));exact HO217.out⟩,⟨by repeat (first|(with_reducible first|exact HB.out|apply za_|apply zn_|apply zd_)|exact HB.out)⟩⟩
   case round =>
    clear H'
    try clear c2
    try clear c2b0
    try clear c2b1
    try clear p2
    try clear c3
    try clear c3b0
    try clear c3b1
    obtain ⟨x3_1,x4_1,rfl,HA,HK1,HO_3,HB⟩:=hrel
    cases gk with
    |zero => exact absurd HA.out (by simp [laws_toAltS.l0])
    |succ k1 =>
     have H:=HA.out
     clear HA
     simp only [laws_toAltS.l0] at H
     by_cases c6 : x4_1 < (l0.length : Int)
     ·rw [if_pos c6] at H
      have c6b0 : decide (x4_1 < (l0.length : Int)) = true:=decide_eq_true c6
      clear c6
      by_cases c7 : 0 ≤ x4_1
      ·rw [if_pos c7] at H
       have c7b0 : decide (0 ≤ x4_1) = true:=decide_eq_true c7
       clear c7
       replace H:=Option.bind_eq_some_iff.mp H
       obtain ⟨t219,A80,H⟩:=H
       replace H : (if x4_1 < (x3_1.length : Int) then (laws_toAltS.l0 k1 l0 (x3_1.set (x4_1 : Int).toNat (⟨t219⟩ : S95)) (wrap64 (x4_1 + 1))) else (none)) = some r:=H
       have A8:=zm_ A80
       clear A80
       by_cases c9 : x4_1 < (x3_1.length : Int)
       ·rw [if_pos c9] at H
        have c9b0 : decide (x4_1 < (x3_1.length : Int)) = true:=decide_eq_true c9
        clear c9
        obtain ⟨y222,hy222⟩ : ∃ y_ : List (S95),y_ = (x3_1.set (x4_1 : Int).toNat (⟨t219⟩ : S95)):=⟨_,rfl⟩
        replace H : (laws_toAltS.l0 k1 l0 y222 (wrap64 (x4_1 + 1))) = some r:=by first|(rw [hy222];with_reducible exact H)|(have H2_:=(Option.bind_some _ _).symm.trans H;rw [hy222];with_reducible exact H2_)|(have H2_:=(Option.bind_some _ _).symm.trans H;with_reducible exact H2_)|with_reducible exact H|(rw [hy222];exact H)|exact H
        have Ny222:=zm_ hy222
        clear hy222
        have H':=zm_ H
        clear H
        have p218 : 0 ≤ (x4_1 : Int):=zo_
        have q218 : x4_1 < (l0.length : Int):=zo_
        obtain ⟨ad218,A218_0,c218_0,e218,hx218_0,hl218_0,hi218_0⟩:=at_T92 HR0.out x4_1 p218 q218
        cases e218
        replace hx218_0:=(HB.out.cell (zb_ w _ hx218_0)).trans hx218_0
        have HR218_0:=zm_ hi218_0
        have HC218_0:=zm_ hl218_0
        clear hi218_0 hl218_0
        replace p218:=eq_true p218
        replace q218:=eq_true q218
        go_wp2_with (first|((with_reducible refine gate_callee (f:=44) rfl ?_);refine goesL_ (some 20) rfl rfl Try.func44 (by kernel_rfl) rfl #[.agg #[.slice A218_0 ((rd_T92 l0 x4_1).f0).length c218_0]] rfl zq_ ?_;(with_reducible refine (laws_toAlt.calls k1 _ _ ((rd_T92 l0 x4_1).f0) t219 _ ?side1 ?side2 A8.out).mono ?_);(case side1 => repeat (first|exact (Kd.C_below HR218_0.out HB.out)|(with_reducible refine Kd.C_alloc ?_ _)|(with_reducible refine Kd.C_drewN ?_ _)|(with_reducible refine Kd.C_drew ?_)));(case side2 => exact HC218_0.out);rintro e w11 ⟨v220,rfl,ho0,hb⟩;refine ⟨_,rfl,?_⟩;have n0_:=zm_ (Kd.R_elder' (by (with_reducible repeat (first|apply Kd.R_alloc|apply Kd.R_drewN|apply Kd.R_drew));exact HO_3.out) (Kd.R_base ho0) hb);have n1_:=zm_ (Kd.R_lower ho0 (below_size zB_));have n2_:=zm_ (below_step zB_ hb);clear HO_3;clear HB;have HO_3:=n0_;have HO221:=n1_;have HB:=n2_;clear n0_ n1_ n2_;(try clear hb);(try clear hb2);(try clear hk);(try clear hi);(try clear ho0);have p10 : 0 ≤ (x4_1 : Int):=zo_;have q10 : (x4_1 : Int) < ((x3_1.length : Int) : Int):=zo_;obtain ⟨go10,co10,eo10,gb10,gl10,cl10,HG10⟩:=Kd.R_form HO_3.out (by omega);(first|cases eo10|(injection eo10 with ea_ en_ ec_;(first|subst ea_|(injection ea_ with ea_;subst ea_));subst ec_;clear en_));have GB10:=zm_ gb10;have GG10:=zm_ HG10;clear gb10 gl10 HG10;obtain ⟨ce10,hcl10,hM10,hcc10,hfr10⟩:=Kd.R_elem HO_3.out z95 (x4_1 : Int) p10 q10;obtain ⟨ve10_0,rfl,ge10_0⟩:=k95_openM hM10;have hx10_0:=hcc10 0 _ rfl;have hf10_0:=hfr10 0;(try simp only [show (k95).sz = 1 from rfl,Nat.mul_one,Nat.add_zero] at hx10_0);(try simp only [show (k95).sz = 1 from rfl,Nat.mul_one,Nat.add_zero] at hf10_0);clear hcl10 hcc10 hfr10 hM10;replace p10:=eq_true p10;replace q10:=eq_true q10;have n_:=zm_ (Kd.R_mono (ok':=(fun k_ => some k_ ≠ (v220 : Value).ownBlock)) HO_3.out (fun k_ hk => hk.2));clear HO_3;have HO_3:=n_;clear n_;have HX12:=zm_ (show Kd.R k95 95 w11 w.heap.size (fun _ => True) (.slice (some ⟨go10,0,none⟩) x3_1.length co10) x3_1 from (by (with_reducible repeat (first|apply Kd.R_alloc|apply Kd.R_drewN|apply Kd.R_drew));exact Kd.R_mono HO_3.out (fun _ hk => trivial)));obtain ⟨ce12,hcl12,hM12,hcc12,hfr12⟩:=Kd.R_elem HX12.out z95 (x4_1 : Int) (zo_) (by have h_ : (x4_1 : Int) < ((x3_1.length : Int) : Int):=zo_;first|exact h_|(have e_:=(Kd.R_reads' HO_3.out).1;omega)|simpa using h_);obtain ⟨ve12_0,rfl,ge12_0⟩:=k95_openM hM12;have HP12:=Kd.R_seg HX12.out (x4_1 : Int) (zo_) (by have h_ : (x4_1 : Int) < ((x3_1.length : Int) : Int):=zo_;first|exact h_|(have e_:=(Kd.R_reads' HO_3.out).1;omega)|simpa using h_) (seg:=[v220]) (j:=0) hcl12 hcc12 (show 1 ≤ 1 from by decide) (x':=(⟨t219⟩ : S95)) (k95_mkM _ _ _ (⟨t219⟩ : S95) (Kd.R_mono (Kd.R_apart' (HO221.out) (Kd.R_typed HO_3.out) (by decide)) (fun k_ hk => ⟨trivial,fun e_ => (hk.2) (by rw [e_];rfl)⟩))) (fun _ hk => hk);have hx12_0:=hcc12 0 _ rfl;(try simp only [show (k95).sz = 1 from rfl,Nat.mul_one,Nat.add_zero] at hx12_0);have hf12_0:=hfr12 0;(try simp only [show (k95).sz = 1 from rfl,Nat.mul_one,Nat.add_zero] at hf12_0);clear hcl12 hcc12 hfr12 hM12;(try simp only [show (k95).sz = 1 from rfl,Nat.mul_one,Nat.add_zero] at HP12))|((with_reducible refine gate_store (t:=95) (p:=21) rfl ?_);(first|have st0_:=store_own (P:=Try.prog) HO221.out|have st0_:=store_own (P:=Try.prog) (Kd.S_R HO221.out));refine store_event (t:=95) (p:=21) (v:=?vo_w13) (w1:=(w11.setCell ⟨go10,(x4_1 : Int).toNat,none⟩ (v220))) ?hg ?ho ?hn ?hr ?_;(case ho => rfl);(case hg => rfl);(case hn => rfl);(case hr => first|(go_simp;done)|(go_simp;rfl));intro w13 hw;have hg : w11.grownBy w13 (some go10):=(by rw [hw];exact HP12.2);have hp_ : Kd.R k95 95 w13 w.heap.size (fun _ => True) (.slice (some ⟨go10,0,none⟩) x3_1.length co10) y222:=(by rw [hw,Ny222.out];exact HP12.1);clear HP12;have n0_:=zm_ (hp_);have n1_:=zm_ ((by rw [hw];exact zs_ (HB.out) GB10.out : Below w.heap.size w w13));clear HO_3;clear HB;clear HO221;have HO_3:=n0_;have HB:=n1_;clear n0_ n1_;clear hg hw hp_))
        go_roundg k1
        case measure => have:=HK1.out;omega
        case rel => exact ⟨(y222),(wrap64 (x4_1 + 1)),zV_,H',⟨by have:=HK1.out;omega⟩,⟨by (with_reducible repeat (first|apply Kd.R_alloc|apply Kd.R_drewN|apply Kd.R_drew));exact HO_3.out⟩,⟨by repeat (first|(with_reducible first|exact HB.out|apply za_|apply zn_|apply zd_)|exact HB.out)⟩⟩
       ·rw [if_neg c9] at H
        exact absurd H (by simp)
      ·rw [if_neg c7] at H
       exact absurd H (by simp)
     ·rw [if_neg c6] at H
      have c6b0 : decide (x4_1 < (l0.length : Int)) = false:=decide_eq_false c6
      clear c6
      obtain rfl:=Option.some.inj H
      go_wp2
      go_ret
      exact ⟨_,by first|rfl|(simp [errW_none,errW_some] <;> rfl)|(simp [*,errW_none,errW_some] <;> rfl),by (with_reducible repeat (first|apply Kd.R_alloc|apply Kd.R_drewN|apply Kd.R_drew));exact HO_3.out,by repeat (first|(with_reducible first|exact HB.out|apply za_|apply zn_|apply zd_)|exact HB.out)⟩
  ·rw [if_neg c3] at H
   exact absurd H (by simp)
 ·rw [if_neg c2] at H
  exact absurd H (by simp)

def laws_toRule.f (k : Nat) (a0_0 : ByteArray) (l0_1 : List ByteArray) (l0_2 : List (S92)) : Option (ByteArray × List ByteArray × (List (S95))):=(laws_toStringS.f k l0_1).bind fun t226 => ((laws_toAltS.f k l0_2).bind fun t229 => (some (a0_0,t226,t229)))
theorem laws_toRule.mono : ∀ a0 a1 a2 k,LeO (laws_toRule.f k a0 a1 a2) (laws_toRule.f (k + 1) a0 a1 a2):=by
 intro a0 a1 a2 k
 unfold laws_toRule.f
 repeat' first
   |(with_reducible exact laws_toAltS.mono _ _)
   |(with_reducible exact laws_toStringS.mono _ _)
   |(with_reducible exact LeO.refl _)
   |(with_reducible exact LeO.none _)
   |(with_reducible refine LeO.ite ?_ ?_)
   |(with_reducible refine LeO.bind ?_ (fun _ => ?_))
set_option maxHeartbeats 8000000 in
set_option maxRecDepth 100000 in
theorem laws_toRule.calls (k : Nat) (a0_0 : ByteArray) (A0_1 : Option Addr) (c0_1 : Nat) (l0_1 : List ByteArray) (A0_2 : Option Addr) (c0_2 : Nat) (l0_2 : List (S92)) (r1 : ByteArray) (r2 : List ByteArray) (r3 : List (S95)) (w : World) (hr0_1 : Kd.C Kd.string w A0_1 l0_1.length l0_1) (hc0_1 : l0_1.length ≤ c0_1) (hr0_2 : Kd.C k92 w A0_2 l0_2.length l0_2) (hc0_2 : l0_2.length ≤ c0_2) (h : laws_toRule.f k a0_0 l0_1 l0_2 = some (r1,r2,r3)) :
  Calls Try.prog 24 #[.agg #[.string a0_0,.slice A0_1 l0_1.length c0_1,.slice A0_2 l0_2.length c0_2]] w fun e w' => ∃ v1_ v2_ : Value,e = .returned (.agg #[.string r1,v1_,v2_]) ∧ Kd.R Kd.string 9 w' w.heap.size (fun _ => True) v1_ r2 ∧ Kd.R k95 95 w' w.heap.size (fun _ => True) v2_ r3 ∧ Below w.heap.size w w':=by
 have hu61:=Try.underlying61
 have hu51:=Try.underlying51
 have HR0_1:=zm_ hr0_1
 have HC0_1:=zm_ hc0_1
 clear hr0_1 hc0_1
 have HR0_2:=zm_ hr0_2
 have HC0_2:=zm_ hc0_2
 clear hr0_2 hc0_2
 have HB:=zm_ (Below.refl w.heap.size w)
 have H : ((laws_toStringS.f k l0_1).bind fun t226 => ((laws_toAltS.f k l0_2).bind fun t229 => (some (a0_0,t226,t229)))) = some (r1,r2,r3):=h
 clear h
 replace H:=Option.bind_eq_some_iff.mp H
 obtain ⟨t226,A20,H⟩:=H
 replace H : ((laws_toAltS.f k l0_2).bind fun t229 => (some (a0_0,t226,t229))) = some (r1,r2,r3):=H
 have A2:=zm_ A20
 clear A20
 replace H:=Option.bind_eq_some_iff.mp H
 obtain ⟨t229,A30,H⟩:=H
 replace H : (some (a0_0,t226,t229)) = some (r1,r2,r3):=H
 have A3:=zm_ A30
 clear A30
 simp only [Option.some.injEq,Prod.mk.injEq] at H
 obtain ⟨rfl,rfl,rfl⟩:=H
 go_enter Try.func24,Try.ntmps24
 go_wp2_with (first|((with_reducible refine gate_dst (N:=1) rfl ?_);refine box_event ?hg (N:=1) ?hd (cs:=#[.string a0_0,.slice A0_1 l0_1.length c0_1,.slice A0_2 l0_2.length c0_2]) (t:=61) ?hr ?_;(case hd => rfl);(case hg => rfl);(case hr => first|(go_simp;done)|(go_simp;rfl));intro gb223 hg w4 hbox hb;have n0_:=zm_ (below_step zB_ hb);have n1_:=zm_ (hbox);have n2_:=zm_ ((by rw [hg];exact (below_size zB_) : w.heap.size ≤ gb223));have n3_:=zm_ ((by rw [hg];exact (below_size zB_) : w.heap.size ≤ gb223));clear HB;have HB:=n0_;have BK223:=n1_;have GW223:=n2_;have GE223:=n3_;clear n0_ n1_ n2_ n3_;clear hb hbox hg)|((with_reducible refine gate_dst (N:=2) rfl ?_);refine box_event ?hg (N:=2) ?hd (cs:=#[.string (⟨#[]⟩ : ByteArray),.slice none 0 0,.slice none 0 0]) (t:=51) ?hr ?_;(case hd => rfl);(case hg => rfl);(case hr => first|(go_simp;done)|(go_simp;rfl));intro gb224 hg w5 hbox hb;have n0_:=zm_ (blk_below (g:=gb223) (o:=.cells #[.string a0_0,.slice A0_1 l0_1.length c0_1,.slice A0_2 l0_2.length c0_2] 61 (0,0)) (by (with_reducible repeat first|refine zl_ ?_ _|refine zr_ ?_|refine zk_ ?_ _);exact BK223.out) hb);have n1_:=zm_ (below_step (by repeat (first|(with_reducible first|exact HB.out|apply za_|apply zn_|apply zd_|refine zs_ ?_ GE223.out)|exact HB.out)) hb);have n2_:=zm_ (hbox);have n3_:=zm_ ((by rw [hg];exact (below_size (by repeat (first|(with_reducible first|exact HB.out|apply za_|apply zn_|apply zd_|refine zs_ ?_ GE223.out)|exact HB.out))) : w.heap.size ≤ gb224));have n4_:=zm_ ((by rw [hg];exact (below_size (by repeat (first|(with_reducible first|exact HB.out|apply za_|apply zn_|apply zd_|refine zs_ ?_ GE223.out)|exact HB.out))) : w.heap.size ≤ gb224));have n5_:=zm_ ((by rw [hg];exact Nat.ne_of_lt (blk_lt (g:=gb223) (o:=.cells #[.string a0_0,.slice A0_1 l0_1.length c0_1,.slice A0_2 l0_2.length c0_2] 61 (0,0)) (by (with_reducible repeat first|refine zl_ ?_ _|refine zr_ ?_|refine zk_ ?_ _);exact BK223.out)) : gb223 ≠ gb224));have n6_:=zm_ ((by rw [hg];exact Nat.ne_of_gt (blk_lt (g:=gb223) (o:=.cells #[.string a0_0,.slice A0_1 l0_1.length c0_1,.slice A0_2 l0_2.length c0_2] 61 (0,0)) (by (with_reducible repeat first|refine zl_ ?_ _|refine zr_ ?_|refine zk_ ?_ _);exact BK223.out)) : gb224 ≠ gb223));clear BK223;clear HB;have BK223:=n0_;have HB:=n1_;have BK224:=n2_;have GW224:=n3_;have GE224:=n4_;have NB223_224:=n5_;have NB224_223:=n6_;clear n0_ n1_ n2_ n3_ n4_ n5_ n6_;clear hb hbox hg)|((with_reducible refine gate_dst (N:=3) rfl ?_);refine box_event ?hg (N:=3) ?hd (cs:=#[.string (⟨#[]⟩ : ByteArray),.slice none 0 0,.slice none 0 0]) (t:=51) ?hr ?_;(case hd => rfl);(case hg => rfl);(case hr => first|(go_simp;done)|(go_simp;rfl));intro gb225 hg w6 hbox hb;have n0_:=zm_ (blk_below (g:=gb223) (o:=.cells #[.string a0_0,.slice A0_1 l0_1.length c0_1,.slice A0_2 l0_2.length c0_2] 61 (0,0)) (by (with_reducible repeat first|refine zl_ ?_ _|refine zr_ ?_|refine zk_ ?_ _);exact BK223.out) hb);have n1_:=zm_ (blk_below (g:=gb224) (o:=.cells #[.string (⟨#[]⟩ : ByteArray),.slice none 0 0,.slice none 0 0] 51 (0,0)) (by (with_reducible repeat first|refine zl_ ?_ _|refine zr_ ?_|refine zk_ ?_ _);exact BK224.out) hb);have n2_:=zm_ (below_step (by repeat (first|(with_reducible first|exact HB.out|apply za_|apply zn_|apply zd_|refine zs_ ?_ GE223.out|refine zs_ ?_ GE224.out)|exact HB.out)) hb);have n3_:=zm_ (hbox);have n4_:=zm_ ((by rw [hg];exact (below_size (by repeat (first|(with_reducible first|exact HB.out|apply za_|apply zn_|apply zd_|refine zs_ ?_ GE223.out|refine zs_ ?_ GE224.out)|exact HB.out))) : w.heap.size ≤ gb225));have n5_:=zm_ ((by rw [hg];exact (below_size (by repeat (first|(with_reducible first|exact HB.out|apply za_|apply zn_|apply zd_|refine zs_ ?_ GE223.out|refine zs_ ?_ GE224.out)|exact HB.out))) : w.heap.size ≤ gb225));have n6_:=zm_ ((by rw [hg];exact Nat.ne_of_lt (blk_lt (g:=gb223) (o:=.cells #[.string a0_0,.slice A0_1 l0_1.length c0_1,.slice A0_2 l0_2.length c0_2] 61 (0,0)) (by (with_reducible repeat first|refine zl_ ?_ _|refine zr_ ?_|refine zk_ ?_ _);exact BK223.out)) : gb223 ≠ gb225));have n7_:=zm_ ((by rw [hg];exact Nat.ne_of_gt (blk_lt (g:=gb223) (o:=.cells #[.string a0_0,.slice A0_1 l0_1.length c0_1,.slice A0_2 l0_2.length c0_2] 61 (0,0)) (by (with_reducible repeat first|refine zl_ ?_ _|refine zr_ ?_|refine zk_ ?_ _);exact BK223.out)) : gb225 ≠ gb223));have n8_:=zm_ ((by rw [hg];exact Nat.ne_of_lt (blk_lt (g:=gb224) (o:=.cells #[.string (⟨#[]⟩ : ByteArray),.slice none 0 0,.slice none 0 0] 51 (0,0)) (by (with_reducible repeat first|refine zl_ ?_ _|refine zr_ ?_|refine zk_ ?_ _);exact BK224.out)) : gb224 ≠ gb225));have n9_:=zm_ ((by rw [hg];exact Nat.ne_of_gt (blk_lt (g:=gb224) (o:=.cells #[.string (⟨#[]⟩ : ByteArray),.slice none 0 0,.slice none 0 0] 51 (0,0)) (by (with_reducible repeat first|refine zl_ ?_ _|refine zr_ ?_|refine zk_ ?_ _);exact BK224.out)) : gb225 ≠ gb224));clear BK223;clear BK224;clear HB;have BK223:=n0_;have BK224:=n1_;have HB:=n2_;have BK225:=n3_;have GW225:=n4_;have GE225:=n5_;have NB223_225:=n6_;have NB225_223:=n7_;have NB224_225:=n8_;have NB225_224:=n9_;clear n0_ n1_ n2_ n3_ n4_ n5_ n6_ n7_ n8_ n9_;clear hb hbox hg;have hnb7:=NB223_224.out;have hnc7:=NB224_223.out;have hnb8:=NB223_225.out;have hnc8:=NB225_223.out;have hcz9_0 : w6.cell? ⟨gb223,0,none⟩ = some (.string a0_0):=(zc_ BK223.out 0).trans rfl;have hcz9_1 : w6.cell? ⟨gb223,1,none⟩ = some (.slice A0_1 l0_1.length c0_1):=(zc_ BK223.out 1).trans rfl;have hcz9_2 : w6.cell? ⟨gb223,2,none⟩ = some (.slice A0_2 l0_2.length c0_2):=(zc_ BK223.out 2).trans rfl;have hfz9_0:=zf_ BK223.out 0;have hfz9_1:=zf_ BK223.out 1;have hfz9_2:=zf_ BK223.out 2;have hnb10:=NB225_224.out;have hnc10:=NB224_225.out;have hcz11_0 : w6.cell? ⟨gb225,0,none⟩ = some (.string (⟨#[]⟩ : ByteArray)):=(zc_ BK225.out 0).trans rfl;have hcz11_1 : w6.cell? ⟨gb225,1,none⟩ = some (.slice none 0 0):=(zc_ BK225.out 1).trans rfl;have hcz11_2 : w6.cell? ⟨gb225,2,none⟩ = some (.slice none 0 0):=(zc_ BK225.out 2).trans rfl;have hfz11_0:=zf_ BK225.out 0;have hfz11_1:=zf_ BK225.out 1;have hfz11_2:=zf_ BK225.out 2)|((with_reducible refine gate_callee (f:=35) rfl ?_);refine goesL_ (some 9) rfl rfl Try.func35 (by kernel_rfl) rfl #[.slice A0_1 l0_1.length c0_1] rfl zq_ ?_;(with_reducible refine (laws_toStringS.calls k _ _ l0_1 t226 _ ?side1 ?side2 A2.out).mono ?_);(case side1 => exact Kd.C_below HR0_1.out (by repeat (first|(with_reducible first|exact HB.out|apply za_|apply zn_|apply zd_|refine zs_ ?_ GE223.out|refine zs_ ?_ GE224.out|refine zs_ ?_ GE225.out)|exact HB.out)));(case side2 => exact HC0_1.out);rintro e w12 ⟨v227,rfl,ho0,hb⟩;refine ⟨_,rfl,?_⟩;have n0_:=zm_ (Kd.R_lower ho0 (below_size (by repeat (first|(with_reducible first|exact HB.out|apply za_|apply zn_|apply zd_|refine zs_ ?_ GE223.out|refine zs_ ?_ GE224.out|refine zs_ ?_ GE225.out)|exact HB.out))));have n1_:=zm_ (blk_below (g:=gb223) (o:=.cells #[.string a0_0,.slice A0_1 l0_1.length c0_1,.slice A0_2 l0_2.length c0_2] 61 (0,0)) (by (with_reducible repeat first|refine zl_ ?_ _|refine zr_ ?_|refine zk_ ?_ _);refine blk_far ?_ NB223_225.out _;(with_reducible repeat first|refine zl_ ?_ _|refine zr_ ?_|refine zk_ ?_ _);exact BK223.out) hb);have n2_:=zm_ (blk_below (g:=gb224) (o:=.cells #[.string (⟨#[]⟩ : ByteArray),.slice none 0 0,.slice none 0 0] 51 (0,0)) (by (with_reducible repeat first|refine zl_ ?_ _|refine zr_ ?_|refine zk_ ?_ _);refine blk_far ?_ NB224_225.out _;(with_reducible repeat first|refine zl_ ?_ _|refine zr_ ?_|refine zk_ ?_ _);exact BK224.out) hb);have n3_:=zm_ (blk_below (g:=gb225) (o:=.cells #[.string a0_0,.slice none 0 0,.slice none 0 0] 51 (0,0)) (by (with_reducible repeat first|refine zl_ ?_ _|refine zr_ ?_|refine zk_ ?_ _);refine blk_put (cs:=#[.string (⟨#[]⟩ : ByteArray),.slice none 0 0,.slice none 0 0]) ?_ 0 _ rfl;(with_reducible repeat first|refine zl_ ?_ _|refine zr_ ?_|refine zk_ ?_ _);exact BK225.out) hb);have n4_:=zm_ (below_step (by repeat (first|(with_reducible first|exact HB.out|apply za_|apply zn_|apply zd_|refine zs_ ?_ GE223.out|refine zs_ ?_ GE224.out|refine zs_ ?_ GE225.out)|exact HB.out)) hb);clear BK223;clear BK224;clear BK225;clear HB;have HO228:=n0_;have BK223:=n1_;have BK224:=n2_;have BK225:=n3_;have HB:=n4_;clear n0_ n1_ n2_ n3_ n4_;(try clear hb);(try clear hb2);(try clear hk);(try clear hi);(try clear ho0);obtain ⟨Ao13,co13,eo13⟩:=Kd.R_slice HO228.out;subst eo13;have hcz14_0 : w12.cell? ⟨gb225,0,none⟩ = some (.string a0_0):=(zc_ BK225.out 0).trans rfl;have hcz14_1 : w12.cell? ⟨gb225,1,none⟩ = some (.slice none 0 0):=(zc_ BK225.out 1).trans rfl;have hcz14_2 : w12.cell? ⟨gb225,2,none⟩ = some (.slice none 0 0):=(zc_ BK225.out 2).trans rfl;have hfz14_0:=zf_ BK225.out 0;have hfz14_1:=zf_ BK225.out 1;have hfz14_2:=zf_ BK225.out 2;have hcz15_0 : w12.cell? ⟨gb223,0,none⟩ = some (.string a0_0):=(zc_ BK223.out 0).trans rfl;have hcz15_1 : w12.cell? ⟨gb223,1,none⟩ = some (.slice A0_1 l0_1.length c0_1):=(zc_ BK223.out 1).trans rfl;have hcz15_2 : w12.cell? ⟨gb223,2,none⟩ = some (.slice A0_2 l0_2.length c0_2):=(zc_ BK223.out 2).trans rfl;have hfz15_0:=zf_ BK223.out 0;have hfz15_1:=zf_ BK223.out 1;have hfz15_2:=zf_ BK223.out 2)|((with_reducible refine gate_callee (f:=36) rfl ?_);refine goesL_ (some 13) rfl rfl Try.func36 (by kernel_rfl) rfl #[.slice A0_2 l0_2.length c0_2] rfl zq_ ?_;(with_reducible refine (laws_toAltS.calls k _ _ l0_2 t229 _ ?side1 ?side2 A3.out).mono ?_);(case side1 => exact Kd.C_below HR0_2.out (by repeat (first|(with_reducible first|exact HB.out|apply za_|apply zn_|apply zd_|refine zs_ ?_ GE223.out|refine zs_ ?_ GE224.out|refine zs_ ?_ GE225.out)|exact HB.out)));(case side2 => exact HC0_2.out);rintro e w16 ⟨v230,rfl,ho0,hb⟩;refine ⟨_,rfl,?_⟩;have n0_:=zm_ (Kd.R_below (by (with_reducible repeat (first|apply Kd.R_alloc|apply Kd.R_drewN|apply Kd.R_drew));exact (Kd.R_mono (Kd.R_far (p:=⟨gb225,1,none⟩) (Kd.R_types HO228.out BK225.out (by decide)) (fun _ hk => hk.2) (.slice Ao13 t226.length co13)) (fun _ h_ => h_.1))) hb);have n1_:=zm_ (Kd.R_lower ho0 (below_size (by repeat (first|(with_reducible first|exact HB.out|apply za_|apply zn_|apply zd_|refine zs_ ?_ GE223.out|refine zs_ ?_ GE224.out|refine zs_ ?_ GE225.out)|exact HB.out))));have n2_:=zm_ (blk_below (g:=gb223) (o:=.cells #[.string a0_0,.slice A0_1 l0_1.length c0_1,.slice A0_2 l0_2.length c0_2] 61 (0,0)) (by (with_reducible repeat first|refine zl_ ?_ _|refine zr_ ?_|refine zk_ ?_ _);refine blk_far ?_ NB223_225.out _;(with_reducible repeat first|refine zl_ ?_ _|refine zr_ ?_|refine zk_ ?_ _);exact BK223.out) hb);have n3_:=zm_ (blk_below (g:=gb224) (o:=.cells #[.string (⟨#[]⟩ : ByteArray),.slice none 0 0,.slice none 0 0] 51 (0,0)) (by (with_reducible repeat first|refine zl_ ?_ _|refine zr_ ?_|refine zk_ ?_ _);refine blk_far ?_ NB224_225.out _;(with_reducible repeat first|refine zl_ ?_ _|refine zr_ ?_|refine zk_ ?_ _);exact BK224.out) hb);have n4_:=zm_ (blk_below (g:=gb225) (o:=.cells #[.string a0_0,.slice Ao13 t226.length co13,.slice none 0 0] 51 (0,0)) (by (with_reducible repeat first|refine zl_ ?_ _|refine zr_ ?_|refine zk_ ?_ _);refine blk_put (cs:=#[.string a0_0,.slice none 0 0,.slice none 0 0]) ?_ 1 _ rfl;(with_reducible repeat first|refine zl_ ?_ _|refine zr_ ?_|refine zk_ ?_ _);exact BK225.out) hb);have n5_:=zm_ (below_step (by repeat (first|(with_reducible first|exact HB.out|apply za_|apply zn_|apply zd_|refine zs_ ?_ GE223.out|refine zs_ ?_ GE224.out|refine zs_ ?_ GE225.out)|exact HB.out)) hb);clear HO228;clear BK223;clear BK224;clear BK225;clear HB;have HO228:=n0_;have HO231:=n1_;have BK223:=n2_;have BK224:=n3_;have BK225:=n4_;have HB:=n5_;clear n0_ n1_ n2_ n3_ n4_ n5_;(try clear hb);(try clear hb2);(try clear hk);(try clear hi);(try clear ho0);obtain ⟨Ao17,co17,eo17⟩:=Kd.R_slice HO231.out;subst eo17;have hcz18_0 : w16.cell? ⟨gb225,0,none⟩ = some (.string a0_0):=(zc_ BK225.out 0).trans rfl;have hcz18_1 : w16.cell? ⟨gb225,1,none⟩ = some (.slice Ao13 t226.length co13):=(zc_ BK225.out 1).trans rfl;have hcz18_2 : w16.cell? ⟨gb225,2,none⟩ = some (.slice none 0 0):=(zc_ BK225.out 2).trans rfl;have hfz18_0:=zf_ BK225.out 0;have hfz18_1:=zf_ BK225.out 1;have hfz18_2:=zf_ BK225.out 2;have hcz19_0 : w16.cell? ⟨gb224,0,none⟩ = some (.string (⟨#[]⟩ : ByteArray)):=(zc_ BK224.out 0).trans rfl;have hcz19_1 : w16.cell? ⟨gb224,1,none⟩ = some (.slice none 0 0):=(zc_ BK224.out 1).trans rfl;have hcz19_2 : w16.cell? ⟨gb224,2,none⟩ = some (.slice none 0 0):=(zc_ BK224.out 2).trans rfl;have hfz19_0:=zf_ BK224.out 0;have hfz19_1:=zf_ BK224.out 1;have hfz19_2:=zf_ BK224.out 2))
 refine bodyPost_ret (results_cell_row rfl _ _ gb224 51 #[.string a0_0,.slice Ao13 t226.length co13,.slice Ao17 t229.length co17] (0,0) _ rfl (by (with_reducible repeat first|refine zl_ ?_ _|refine zr_ ?_|refine zk_ ?_ _);refine blk_put (cs:=#[.string a0_0,.slice Ao13 t226.length co13,.slice none 0 0]) ?_ 2 _ rfl;(with_reducible repeat first|refine zl_ ?_ _|refine zr_ ?_|refine zk_ ?_ _);refine blk_put (cs:=#[.string a0_0,.slice none 0 0,.slice none 0 0]) ?_ 1 _ rfl;(with_reducible repeat first|refine zl_ ?_ _|refine zr_ ?_|refine zk_ ?_ _);refine blk_put (cs:=#[.string (⟨#[]⟩ : ByteArray),.slice none 0 0,.slice none 0 0]) ?_ 0 _ rfl;(with_reducible repeat first|refine zl_ ?_ _|refine zr_ ?_|refine zk_ ?_ _);refine blk_far ?_ NB224_225.out _;(with_reducible repeat first|refine zl_ ?_ _|refine zr_ ?_|refine zk_ ?_ _);exact BK224.out) Try.underlying51 rfl (by kernel_rfl)) rfl ?_
 exact ⟨_,_,by first|rfl|(simp [errW_none,errW_some] <;> rfl)|(simp [*,errW_none,errW_some] <;> rfl),by (with_reducible repeat (first|apply Kd.R_alloc|apply Kd.R_drewN|apply Kd.R_drew));exact Kd.R_mono (Kd.R_far (p:=⟨gb224,2,none⟩) (Kd.R_far (p:=⟨gb224,1,none⟩) (Kd.R_far (p:=⟨gb224,0,none⟩) (Kd.R_far (p:=⟨gb225,2,none⟩) (Kd.R_types (Kd.R_types HO228.out BK225.out (by decide)) BK224.out (by decide)) (fun _ hk => hk.1.2) (.slice Ao17 t229.length co17)) (fun _ hk => hk.2) (.string a0_0)) (fun _ hk => hk.2) (.slice Ao13 t226.length co13)) (fun _ hk => hk.2) (.slice Ao17 t229.length co17)) (fun _ hk => trivial),by (with_reducible repeat (first|apply Kd.R_alloc|apply Kd.R_drewN|apply Kd.R_drew));exact Kd.R_mono (Kd.R_far (p:=⟨gb224,2,none⟩) (Kd.R_far (p:=⟨gb224,1,none⟩) (Kd.R_far (p:=⟨gb224,0,none⟩) (Kd.R_far (p:=⟨gb225,2,none⟩) (Kd.R_types (Kd.R_types HO231.out BK225.out (by decide)) BK224.out (by decide)) (fun _ hk => hk.1.2) (.slice Ao17 t229.length co17)) (fun _ hk => hk.2) (.string a0_0)) (fun _ hk => hk.2) (.slice Ao13 t226.length co13)) (fun _ hk => hk.2) (.slice Ao17 t229.length co17)) (fun _ hk => trivial),by repeat (first|(with_reducible first|exact HB.out|apply za_|apply zn_|apply zd_|refine zs_ ?_ GE223.out|refine zs_ ?_ GE224.out|refine zs_ ?_ GE225.out)|exact HB.out)⟩

def laws_toRuleS.l0 : Nat → List (S61) → List (S51) → Int → Option ((List (S51)))
 |0,_,_,_ => none
 |k + 1,x0,x3,x4 => if x4 < (x0.length : Int) then (if 0 ≤ x4 then ((laws_toRule.f k ((rd_T61 x0 x4).f0) ((rd_T61 x0 x4).f1) ((rd_T61 x0 x4).f2)).bind fun bt236 => (if x4 < (x3.length : Int) then (laws_toRuleS.l0 k x0 (x3.set (x4 : Int).toNat (⟨bt236.1,bt236.2.1,bt236.2.2⟩ : S51)) (wrap64 (x4 + 1))) else (none))) else (none)) else (some x3)
def laws_toRuleS.f (k : Nat) (l0 : List (S61)) : Option ((List (S51))):=if 0 ≤ (l0.length : Int) then (if ((l0.length : Int) : Int).toNat ≤ 4398046511104 then (laws_toRuleS.l0 k l0 (List.replicate ((l0.length : Int) : Int).toNat z51) 0) else (none)) else (none)
theorem laws_toRuleS.mono_l : ∀ k,(∀ y0 y1 y2,LeO (laws_toRuleS.l0 k y0 y1 y2) (laws_toRuleS.l0 (k + 1) y0 y1 y2))
 |0 => fun _ _ _ r h => by simp [laws_toRuleS.l0] at h
 |k + 1 => by
  have ih0:=laws_toRuleS.mono_l k
  ·intro y0 y1 y2
   unfold laws_toRuleS.l0
   repeat' first
   |(with_reducible exact ih0 _ _ _)
   |(with_reducible exact laws_toRule.mono _ _ _ _)
   |(with_reducible exact LeO.refl _)
   |(with_reducible exact LeO.none _)
   |(with_reducible refine LeO.ite ?_ ?_)
   |(with_reducible refine LeO.bind ?_ (fun _ => ?_))
theorem laws_toRuleS.mono : ∀ a0 k,LeO (laws_toRuleS.f k a0) (laws_toRuleS.f (k + 1) a0):=by
 intro a0 k
 have ih0:=laws_toRuleS.mono_l k
 unfold laws_toRuleS.f
 repeat' first
   |(with_reducible exact ih0 _ _ _)
   |(with_reducible exact laws_toRule.mono _ _ _ _)
   |(with_reducible exact LeO.refl _)
   |(with_reducible exact LeO.none _)
   |(with_reducible refine LeO.ite ?_ ?_)
   |(with_reducible refine LeO.bind ?_ (fun _ => ?_))
set_option maxHeartbeats 8000000 in
set_option maxRecDepth 100000 in
theorem laws_toRuleS.calls (k : Nat) (A0 : Option Addr) (c0 : Nat) (l0 : List (S61)) (r : List (S51)) (w : World) (hr0 : Kd.C k61 w A0 l0.length l0) (hc0 : l0.length ≤ c0) (h : laws_toRuleS.f k l0 = some r) :
  Calls Try.prog 15 #[.slice A0 l0.length c0] w fun e w' => ∃ v0_ : Value,e = .returned (v0_) ∧ Kd.R k51 51 w' w.heap.size (fun _ => True) v0_ r ∧ Below w.heap.size w w':=by
 have hu61:=Try.underlying61
 have hu51:=Try.underlying51
 have HR0:=zm_ hr0
 have HC0:=zm_ hc0
 clear hr0 hc0
 have HB:=zm_ (Below.refl w.heap.size w)
 have H : (if 0 ≤ (l0.length : Int) then (if ((l0.length : Int) : Int).toNat ≤ 4398046511104 then (laws_toRuleS.l0 k l0 (List.replicate ((l0.length : Int) : Int).toNat z51) 0) else (none)) else (none)) = some r:=h
 clear h
 by_cases c2 : 0 ≤ (l0.length : Int)
 ·rw [if_pos c2] at H
  have c2b0:=eq_true c2
  have c2b1 : decide (0 ≤ (l0.length : Int)) = true:=decide_eq_true c2
  clear c2
  by_cases c3 : ((l0.length : Int) : Int).toNat ≤ 4398046511104
  ·rw [if_pos c3] at H
   have c3b0:=eq_true c3
   have c3b1 : decide (((l0.length : Int) : Int).toNat ≤ 4398046511104) = true:=decide_eq_true c3
   clear c3
   obtain ⟨y232,hy232⟩ : ∃ y_ : List (S51),y_ = (List.replicate ((l0.length : Int) : Int).toNat z51):=⟨_,rfl⟩
   replace H : (laws_toRuleS.l0 k l0 y232 0) = some r:=by first|(rw [hy232];with_reducible exact H)|(have H2_:=(Option.bind_some _ _).symm.trans H;rw [hy232];with_reducible exact H2_)|(have H2_:=(Option.bind_some _ _).symm.trans H;with_reducible exact H2_)|with_reducible exact H|(rw [hy232];exact H)|exact H
   have Ny232:=zm_ hy232
   clear hy232
   have H':=zm_ H
   clear H
   go_enter Try.func15,Try.ntmps15
   go_wp2_with (first|((with_reducible refine gate_dst (N:=7) rfl ?_);refine Kd.R_make k51 _ 51 rfl (N:=7) rfl 31 _ _ rfl (l0.length : Int) rfl rfl Try.underlying31 (.agg #[(.string ⟨#[]⟩),(.slice none 0 0),(.slice none 0 0)]) 64 info51 rfl (by decide) (by omega) z51 (ok:=fun _ => True) (okp:=fun _ => True) (k51_mkM _ _ _ z51 (Kd.R_nil _ _ _ _ _) (Kd.R_nil _ _ _ _ _)) (fun _ hk => hk) trivial (zo_) (Nat.le_trans (Nat.mul_le_mul_right _ (zo_ : (l0.length : Int).toNat ≤ 4398046511104)) (by omega)) (Below.refl _ _) (Nat.le_refl _) ?_;intro v233 w4 ho5 hb hg_ hnew_;clear hg_ hnew_;(first|rw [← Ny232.out] at ho5|(simp only [Int.reduceToNat] at ho5;rw [← Ny232.out] at ho5));have n0_:=zm_ (Kd.R_lower ho5 (below_size zB_));have n1_:=zm_ (below_step zB_ hb);clear HB;have HO234:=n0_;have HB:=n1_;clear n0_ n1_;clear hb ho5))
   go_loopg [4] k (fun kq v4 w' => ∃ (x3_1 : List (S51)) (x4_1 : Int),v4 = .int .i64 x4_1 ∧ Aside0 (laws_toRuleS.l0 kq l0 x3_1 x4_1 = some r) ∧ Aside0 (kq ≤ k) ∧ Aside0 (Kd.R k51 51 w' w.heap.size (fun _ => True) v233 x3_1) ∧ Aside0 (Below w.heap.size w w'))
   case atStart => exact ⟨(y232),(0),zV_,H',⟨Nat.le_refl _⟩,⟨by (with_reducible repeat (first|apply Kd.R_alloc|apply Kd.R_drewN|apply Kd.R_drew));exact HO234.out⟩,⟨by repeat (first|(with_reducible first|exact HB.out|apply za_|apply zn_|apply zd_)|exact HB.out)⟩⟩
   case round =>
    clear H'
    try clear c1
    try clear c2
    try clear c2b0
    try clear c2b1
    try clear p2
    try clear c3
    try clear c3b0
    try clear c3b1
    obtain ⟨x3_1,x4_1,rfl,HA,HK1,HO_3,HB⟩:=hrel
    cases gk with
    |zero => exact absurd HA.out (by simp [laws_toRuleS.l0])
    |succ k1 =>
     have H:=HA.out
     clear HA
     simp only [laws_toRuleS.l0] at H
     by_cases c6 : x4_1 < (l0.length : Int)
     ·rw [if_pos c6] at H
      have c6b0 : decide (x4_1 < (l0.length : Int)) = true:=decide_eq_true c6
      clear c6
      by_cases c7 : 0 ≤ x4_1
      ·rw [if_pos c7] at H
       have c7b0 : decide (0 ≤ x4_1) = true:=decide_eq_true c7
       clear c7
       replace H:=Option.bind_eq_some_iff.mp H
       obtain ⟨⟨t236,t237,t240⟩,A80,H⟩:=H
       replace H : (if x4_1 < (x3_1.length : Int) then (laws_toRuleS.l0 k1 l0 (x3_1.set (x4_1 : Int).toNat (⟨t236,t237,t240⟩ : S51)) (wrap64 (x4_1 + 1))) else (none)) = some r:=H
       have A8:=zm_ A80
       clear A80
       by_cases c9 : x4_1 < (x3_1.length : Int)
       ·rw [if_pos c9] at H
        have c9b0 : decide (x4_1 < (x3_1.length : Int)) = true:=decide_eq_true c9
        clear c9
        obtain ⟨y243,hy243⟩ : ∃ y_ : List (S51),y_ = (x3_1.set (x4_1 : Int).toNat (⟨t236,t237,t240⟩ : S51)):=⟨_,rfl⟩
        replace H : (laws_toRuleS.l0 k1 l0 y243 (wrap64 (x4_1 + 1))) = some r:=by first|(rw [hy243];with_reducible exact H)|(have H2_:=(Option.bind_some _ _).symm.trans H;rw [hy243];with_reducible exact H2_)|(have H2_:=(Option.bind_some _ _).symm.trans H;with_reducible exact H2_)|with_reducible exact H|(rw [hy243];exact H)|exact H
        have Ny243:=zm_ hy243
        clear hy243
        have H':=zm_ H
        clear H
        have p235 : 0 ≤ (x4_1 : Int):=zo_
        have q235 : x4_1 < (l0.length : Int):=zo_
        obtain ⟨ad235,A235_1,c235_1,A235_2,c235_2,e235,hx235_0,hx235_1,hx235_2,hl235_1,hi235_1,hl235_2,hi235_2⟩:=at_T61 HR0.out x4_1 p235 q235
        cases e235
        replace hx235_0:=(HB.out.cell (zb_ w _ hx235_0)).trans hx235_0
        replace hx235_1:=(HB.out.cell (zb_ w _ hx235_1)).trans hx235_1
        replace hx235_2:=(HB.out.cell (zb_ w _ hx235_2)).trans hx235_2
        have HR235_1:=zm_ hi235_1
        have HC235_1:=zm_ hl235_1
        clear hi235_1 hl235_1
        have HR235_2:=zm_ hi235_2
        have HC235_2:=zm_ hl235_2
        clear hi235_2 hl235_2
        replace p235:=eq_true p235
        replace q235:=eq_true q235
        go_wp2_with (first|((with_reducible refine gate_callee (f:=24) rfl ?_);refine goesL_ (some 20) rfl rfl Try.func24 (by kernel_rfl) rfl #[.agg #[.string ((rd_T61 l0 x4_1).f0),.slice A235_1 ((rd_T61 l0 x4_1).f1).length c235_1,.slice A235_2 ((rd_T61 l0 x4_1).f2).length c235_2]] rfl zq_ ?_;(with_reducible refine (laws_toRule.calls k1 ((rd_T61 l0 x4_1).f0) _ _ ((rd_T61 l0 x4_1).f1) _ _ ((rd_T61 l0 x4_1).f2) t236 t237 t240 _ ?side1 ?side2 ?side3 ?side4 A8.out).mono ?_);(case side1 => repeat (first|exact (Kd.C_below HR235_1.out HB.out)|(with_reducible refine Kd.C_alloc ?_ _)|(with_reducible refine Kd.C_drewN ?_ _)|(with_reducible refine Kd.C_drew ?_)));(case side2 => exact HC235_1.out);(case side3 => repeat (first|exact (Kd.C_below HR235_2.out HB.out)|(with_reducible refine Kd.C_alloc ?_ _)|(with_reducible refine Kd.C_drewN ?_ _)|(with_reducible refine Kd.C_drew ?_)));(case side4 => exact HC235_2.out);rintro e w11 ⟨v238,v241,rfl,ho0,ho1,hb⟩;refine ⟨_,rfl,?_⟩;have n0_:=zm_ (Kd.R_mono (Kd.R_told (Kd.R_told (Kd.R_old (by (with_reducible repeat (first|apply Kd.R_alloc|apply Kd.R_drewN|apply Kd.R_drew));exact HO_3.out) hb) (Kd.R_base ho0)) (Kd.R_base ho1)) (fun _ h_ => h_.1));have n1_:=zm_ (Kd.R_lower ho0 (below_size zB_));have n2_:=zm_ (Kd.R_lower ho1 (below_size zB_));have n3_:=zm_ (below_step zB_ hb);clear HO_3;clear HB;have HO_3:=n0_;have HO239:=n1_;have HO242:=n2_;have HB:=n3_;clear n0_ n1_ n2_ n3_;(try clear hb);(try clear hb2);(try clear hk);(try clear hi);(try clear ho0);(try clear ho1);have p10 : 0 ≤ (x4_1 : Int):=zo_;have q10 : (x4_1 : Int) < ((x3_1.length : Int) : Int):=zo_;obtain ⟨go10,co10,eo10,gb10,gl10,cl10,HG10⟩:=Kd.R_form HO_3.out (by omega);(first|cases eo10|(injection eo10 with ea_ en_ ec_;(first|subst ea_|(injection ea_ with ea_;subst ea_));subst ec_;clear en_));have GB10:=zm_ gb10;have GG10:=zm_ HG10;clear gb10 gl10 HG10;obtain ⟨ce10,hcl10,hM10,hcc10,hfr10⟩:=Kd.R_elem HO_3.out z51 (x4_1 : Int) p10 q10;obtain ⟨ve10_1,ve10_2,rfl,ge10_1,ge10_2⟩:=k51_openM hM10;have hx10_0 : w11.cell? ⟨go10,(x4_1 : Int).toNat * 3,none⟩ = some (.string ((rd_T51 x3_1 x4_1).f0)):=hcc10 0 _ rfl;have hx10_1 : w11.cell? ⟨go10,(x4_1 : Int).toNat * 3 + 1,none⟩ = some (ve10_1):=hcc10 1 _ rfl;have hx10_2 : w11.cell? ⟨go10,(x4_1 : Int).toNat * 3 + 2,none⟩ = some (ve10_2):=hcc10 2 _ rfl;have hf10_0 : w11.frozen? ⟨go10,(x4_1 : Int).toNat * 3,none⟩ = false:=hfr10 0;have hf10_1 : w11.frozen? ⟨go10,(x4_1 : Int).toNat * 3 + 1,none⟩ = false:=hfr10 1;have hf10_2 : w11.frozen? ⟨go10,(x4_1 : Int).toNat * 3 + 2,none⟩ = false:=hfr10 2;clear hcl10 hcc10 hfr10 hM10;replace p10:=eq_true p10;replace q10:=eq_true q10;have n_:=zm_ (Kd.R_mono (ok':=(fun k_ => some k_ ≠ (v238 : Value).ownBlock ∧ some k_ ≠ (v241 : Value).ownBlock)) HO_3.out (fun k_ hk => ⟨hk.1.2,hk.2⟩));clear HO_3;have HO_3:=n_;clear n_;have HX12:=zm_ (show Kd.R k51 51 w11 w.heap.size (fun _ => True) (.slice (some ⟨go10,0,none⟩) x3_1.length co10) x3_1 from (by (with_reducible repeat (first|apply Kd.R_alloc|apply Kd.R_drewN|apply Kd.R_drew));exact Kd.R_mono HO_3.out (fun _ hk => trivial)));obtain ⟨ce12,hcl12,hM12,hcc12,hfr12⟩:=Kd.R_elem HX12.out z51 (x4_1 : Int) (zo_) (by have h_ : (x4_1 : Int) < ((x3_1.length : Int) : Int):=zo_;first|exact h_|(have e_:=(Kd.R_reads' HO_3.out).1;omega)|simpa using h_);obtain ⟨ve12_1,ve12_2,rfl,ge12_1,ge12_2⟩:=k51_openM hM12;have HP12:=Kd.R_seg HX12.out (x4_1 : Int) (zo_) (by have h_ : (x4_1 : Int) < ((x3_1.length : Int) : Int):=zo_;first|exact h_|(have e_:=(Kd.R_reads' HO_3.out).1;omega)|simpa using h_) (seg:=[.string t236,v238,v241]) (j:=0) hcl12 hcc12 (show 3 ≤ 3 from by decide) (x':=(⟨t236,t237,t240⟩ : S51)) (k51_mkM _ _ _ (⟨t236,t237,t240⟩ : S51) (Kd.R_mono (Kd.R_apart' (HO239.out) (Kd.R_typed HO_3.out) (by decide)) (fun k_ hk => ⟨trivial,fun e_ => (hk.2) (by rw [e_];rfl)⟩)) (Kd.R_mono (Kd.R_apart' (HO242.out) (Kd.R_typed HO_3.out) (by decide)) (fun k_ hk => ⟨trivial,fun e_ => (hk.2) (by rw [e_];rfl)⟩))) (fun _ hk => hk);have hx12_0:=hcc12 0 _ rfl;(try simp only [show (k51).sz = 3 from rfl,Nat.mul_one,Nat.add_zero] at hx12_0);have hf12_0:=hfr12 0;(try simp only [show (k51).sz = 3 from rfl,Nat.mul_one,Nat.add_zero] at hf12_0);have hx12_1:=hcc12 1 _ rfl;(try simp only [show (k51).sz = 3 from rfl,Nat.mul_one,Nat.add_zero] at hx12_1);have hf12_1:=hfr12 1;(try simp only [show (k51).sz = 3 from rfl,Nat.mul_one,Nat.add_zero] at hf12_1);have hx12_2:=hcc12 2 _ rfl;(try simp only [show (k51).sz = 3 from rfl,Nat.mul_one,Nat.add_zero] at hx12_2);have hf12_2:=hfr12 2;(try simp only [show (k51).sz = 3 from rfl,Nat.mul_one,Nat.add_zero] at hf12_2);clear hcl12 hcc12 hfr12 hM12)|((with_reducible refine gate_store (t:=51) (p:=21) rfl ?_);(first|have st1_:=store_own (P:=Try.prog) HO239.out|have st1_:=store_own (P:=Try.prog) (Kd.S_R HO239.out));(first|have st2_:=store_own (P:=Try.prog) HO242.out|have st2_:=store_own (P:=Try.prog) (Kd.S_R HO242.out));refine store_event (t:=51) (p:=21) (v:=?vo_w13) (w1:=(((w11.setCell ⟨go10,(x4_1 : Int).toNat * 3,none⟩ (.string t236)).setCell ⟨go10,(x4_1 : Int).toNat * 3 + 1,none⟩ (v238)).setCell ⟨go10,(x4_1 : Int).toNat * 3 + 2,none⟩ (v241))) ?hg ?ho ?hn ?hr ?_;(case ho => rfl);(case hg => rfl);(case hn => rfl);(case hr => first|(go_simp;done)|(go_simp;rfl));intro w13 hw;have hg : w11.grownBy w13 (some go10):=(by rw [hw];exact HP12.2);have hp_ : Kd.R k51 51 w13 w.heap.size (fun _ => True) (.slice (some ⟨go10,0,none⟩) x3_1.length co10) y243:=(by rw [hw,Ny243.out];exact HP12.1);clear HP12;have n0_:=zm_ (hp_);have n1_:=zm_ ((by rw [hw];exact zs_ (zs_ (zs_ (HB.out) GB10.out) GB10.out) GB10.out : Below w.heap.size w w13));clear HO_3;clear HB;clear HO239;clear HO242;have HO_3:=n0_;have HB:=n1_;clear n0_ n1_;clear hg hw hp_))
        go_roundg k1
        case measure => have:=HK1.out;omega
        case rel => exact ⟨(y243),(wrap64 (x4_1 + 1)),zV_,H',⟨by have:=HK1.out;omega⟩,⟨by (with_reducible repeat (first|apply Kd.R_alloc|apply Kd.R_drewN|apply Kd.R_drew));exact HO_3.out⟩,⟨by repeat (first|(with_reducible first|exact HB.out|apply za_|apply zn_|apply zd_)|exact HB.out)⟩⟩
       ·rw [if_neg c9] at H
        exact absurd H (by simp)
      ·rw [if_neg c7] at H
       exact absurd H (by simp)
     ·rw [if_neg c6] at H
      have c6b0 : decide (x4_1 < (l0.length : Int)) = false:=decide_eq_false c6
      clear c6
      obtain rfl:=Option.some.inj H
      go_wp2
      go_ret
      exact ⟨_,by first|rfl|(simp [errW_none,errW_some] <;> rfl)|(simp [*,errW_none,errW_some] <;> rfl),by (with_reducible repeat (first|apply Kd.R_alloc|apply Kd.R_drewN|apply Kd.R_drew));exact HO_3.out,by repeat (first|(with_reducible first|exact HB.out|apply za_|apply zn_|apply zd_)|exact HB.out)⟩
  ·rw [if_neg c3] at H
   exact absurd H (by simp)
 ·rw [if_neg c2] at H
  exact absurd H (by simp)

end Go.Proofs.Ytkbgmojomgelbaa.MFnExactTreeText
