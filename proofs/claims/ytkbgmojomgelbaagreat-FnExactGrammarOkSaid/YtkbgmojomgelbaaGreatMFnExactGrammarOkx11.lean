import Derived.Test.YtkbgmojomgelbaaGreatMFnExactGrammarOkx0
namespace Go.Proofs.YtkbgmojomgelbaaGreat.MFnExactGrammarOk
open Go.RowKit Go.Proofs.YtkbgmojomgelbaaGreatW.PrintWords Go.Proofs.YtkbgmojomgelbaaGreatW.PrintLast Go.Proofs.YtkbgmojomgelbaaGreatW.PrintMore
attribute [local go_sem] max2_int min2_int max_two min_two max_three min_three max_four min_four
set_option linter.unusedVariables false
set_option linter.unusedSimpArgs false
set_option maxHeartbeats 8000000
set_option maxRecDepth 100000
theorem zt11_27 {p : Prop} (h : p := by (with_reducible repeat (first|apply Kd.R_alloc|apply Kd.R_drewN|apply Kd.R_drew));exact Kd.R_mono HO_3.out (fun _ hk => trivial)) : p := h
theorem zt11_26 {p : Prop} (h : p := by have h_ : (x4_1 : Int) < ((x3_1.length : Int) : Int):=zo_;first|exact h_|(have e_:=(Kd.S_reads' HO_3.out).1;omega)|simpa using h_) : p := h
theorem zt11_25 {p : Prop} (h : p := by rw [hg];exact Nat.ne_of_gt (blk_lt (g:=gb277) (o:=.cells #[.int .i64 a0_0,.string a0_1,.slice A0_2 l0_2.length c0_2,.string a0_3] 170 (0,0)) zK_)) : p := h
theorem zt11_24 {p : Prop} (h : p := by rw [hg];exact Nat.ne_of_lt (blk_lt (g:=gb277) (o:=.cells #[.int .i64 a0_0,.string a0_1,.slice A0_2 l0_2.length c0_2,.string a0_3] 170 (0,0)) zK_)) : p := h
theorem zt11_23 {p : Prop} (h : p := by rw [hg];exact Nat.ne_of_gt (blk_lt (g:=gb246) (o:=.cells #[.int .i64 a0_0,.int .i64 a0_1,.string a0_2,.slice A0_3 l0_3.length c0_3] 219 (0,0)) zK_)) : p := h
theorem zt11_22 {p : Prop} (h : p := by rw [hg];exact Nat.ne_of_lt (blk_lt (g:=gb246) (o:=.cells #[.int .i64 a0_0,.int .i64 a0_1,.string a0_2,.slice A0_3 l0_3.length c0_3] 219 (0,0)) zK_)) : p := h
theorem zt11_5 {p : Prop} (h : p := by have h_ : (x4_1 : Int) < ((x3_1.length : Int) : Int):=zo_;first|exact h_|(have e_:=(Kd.R_reads' HO_3.out).1;omega)|simpa using h_) : p := h

def laws_toStringS.l0 : Nat → List ByteArray → List ByteArray → Int → Option (List ByteArray)
 |0,_,_,_ => none
 |k + 1,x0,x3,x4 => if x4 < (x0.length : Int) then (if 0 ≤ x4 then (if x4 < (x3.length : Int) then (laws_toStringS.l0 k x0 (x3.set (x4 : Int).toNat (rdOf ByteArray.empty x0 x4)) (wrap64 (x4 + 1))) else (none)) else (none)) else (some x3)
def laws_toStringS.f (k : Nat) (l0 : List ByteArray) : Option (List ByteArray):=if 0 ≤ (l0.length : Int) then (if ((l0.length : Int) : Int).toNat ≤ 17592186044416 then (laws_toStringS.l0 k l0 (List.replicate ((l0.length : Int) : Int).toNat (⟨#[]⟩ : ByteArray)) 0) else (none)) else (none)
theorem laws_toStringS.calls (k : Nat) (A0 : Option Addr) (c0 : Nat) (l0 : List ByteArray) (r : List ByteArray) (w : World) (hr0 : Kd.C Kd.string w A0 l0.length l0) (hc0 : l0.length ≤ c0) (h : laws_toStringS.f k l0 = some r) :
  Calls Tryz.prog 70 #[.slice A0 l0.length c0] w fun e w' => ∃ v0_ : Value,e = .returned (v0_) ∧ Kd.R Kd.string 9 w' w.heap.size (fun _ => True) v0_ r ∧ Below w.heap.size w w':=by
 have HR0:=zm_ hr0
 have HC0:=zm_ hc0
 clear hr0 hc0
 have HB:=zm_ (Below.refl w.heap.size w)
 have H : (if 0 ≤ (l0.length : Int) then (if ((l0.length : Int) : Int).toNat ≤ 17592186044416 then (laws_toStringS.l0 k l0 (List.replicate ((l0.length : Int) : Int).toNat (⟨#[]⟩ : ByteArray)) 0) else (none)) else (none)) = some r:=h
 clear h
 by_cases c2 : 0 ≤ (l0.length : Int)
 rotate_left
 ·rw [if_neg c2] at H
  cases H


 rw [if_pos c2] at H
 have c2b0:=eq_true c2
 have c2b1:=decide_eq_true c2
 clear c2
 by_cases c3 : ((l0.length : Int) : Int).toNat ≤ 17592186044416
 rotate_left
 ·rw [if_neg c3] at H
  cases H
 rw [if_pos c3] at H
 have c3b0:=eq_true c3
 have c3b1:=decide_eq_true c3
 clear c3
 obtain ⟨y236,hy236⟩ : ∃ y_ : List ByteArray,y_ = (List.replicate ((l0.length : Int) : Int).toNat (⟨#[]⟩ : ByteArray)):=⟨_,rfl⟩
 replace H : (laws_toStringS.l0 k l0 y236 0) = some r:=by first|(rw [hy236];with_reducible exact H)|(have H2_:=(Option.bind_some _ _).symm.trans H;rw [hy236];with_reducible exact H2_)|(have H2_:=(Option.bind_some _ _).symm.trans H;with_reducible exact H2_)|with_reducible exact H|(rw [hy236];exact H)|exact H
 have Ny236:=zm_ hy236
 clear hy236
 have H':=zm_ H
 clear H
 go_enter Tryz.func70,Tryz.ntmps70
 go_wp2_with (first|((with_reducible refine gate_dst (N:=7) rfl ?_);refine Kd.R_make Kd.string _ 9 rfl (N:=7) rfl 46 _ _ rfl (l0.length : Int) rfl rfl Tryz.underlying46 (.string ⟨#[]⟩) 16 info9 rfl (by decide) (by omega) (⟨#[]⟩ : ByteArray) (ok:=fun _ => True) (okp:=fun _ => True) rfl (fun _ hk => hk) trivial (zo_) (Nat.le_trans (Nat.mul_le_mul_right _ (zo_ : (l0.length : Int).toNat ≤ 17592186044416)) (by omega)) (Below.refl _ _) (Nat.le_refl _) ?_;intro v237 w4 ho5 hb hg_ hnew_;clear hg_ hnew_;(first|rw [← Ny236.out] at ho5|(simp only [Int.reduceToNat] at ho5;rw [← Ny236.out] at ho5));have n0_:=zm_ (Kd.R_lower ho5 (below_size zB_));have n1_:=zm_ (below_step zB_ hb);clear HB;have HO238:=n0_;have HB:=n1_;clear n0_ n1_;clear hb ho5))
 go_loopg [4] k (fun kq v4 w' => ∃ (x3_1 : List ByteArray) (x4_1 : Int),v4 = .int .i64 x4_1 ∧ Aside0 (laws_toStringS.l0 kq l0 x3_1 x4_1 = some r) ∧ Aside0 (kq ≤ k) ∧ Aside0 (Kd.R Kd.string 9 w' w.heap.size (fun _ => True) v237 x3_1) ∧ Aside0 (Below w.heap.size w w'))
 case atStart => exact ⟨(y236),(0),zV_,H',⟨Nat.le_refl _⟩,⟨zO_⟩,⟨zG_⟩⟩
 case round =>
  clear H'
  obtain ⟨x3_1,x4_1,rfl,HA,HK1,HO_3,HB⟩:=hrel
  cases gk with
  |zero => exact absurd HA.out (by simp [laws_toStringS.l0])
  |succ k1 =>
   have H:=HA.out
   clear HA
   simp only [laws_toStringS.l0] at H
   by_cases c6 : x4_1 < (l0.length : Int)
   rotate_left
   ·rw [if_neg c6] at H
    have c6b0:=decide_eq_false c6
    clear c6
    obtain rfl:=zi_ H
    go_wp2
    go_ret
    exact ⟨_,by first|rfl|(simp [errW_none,errW_some] <;> rfl)|(simp [*,errW_none,errW_some] <;> rfl),by (with_reducible repeat (first|apply Kd.R_alloc|apply Kd.R_drewN|apply Kd.R_drew));exact HO_3.out,zG_⟩
   rw [if_pos c6] at H
   have c6b0:=decide_eq_true c6
   clear c6
   by_cases c7 : 0 ≤ x4_1
   rotate_left
   ·rw [if_neg c7] at H
    cases H
   rw [if_pos c7] at H
   have c7b0:=decide_eq_true c7
   clear c7
   by_cases c8 : x4_1 < (x3_1.length : Int)
   rotate_left
   ·rw [if_neg c8] at H
    cases H
   rw [if_pos c8] at H
   have c8b0:=decide_eq_true c8
   clear c8
   obtain ⟨y240,hy240⟩ : ∃ y_ : List ByteArray,y_ = (x3_1.set (x4_1 : Int).toNat (rdOf ByteArray.empty l0 x4_1)):=⟨_,rfl⟩
   replace H : (laws_toStringS.l0 k1 l0 y240 (wrap64 (x4_1 + 1))) = some r:=by first|(rw [hy240];with_reducible exact H)|(have H2_:=(Option.bind_some _ _).symm.trans H;rw [hy240];with_reducible exact H2_)|(have H2_:=(Option.bind_some _ _).symm.trans H;with_reducible exact H2_)|with_reducible exact H|(rw [hy240];exact H)|exact H
   have Ny240:=zm_ hy240
   clear hy240
   have H':=zm_ H
   clear H
   have p239 : 0 ≤ (x4_1 : Int):=zo_
   have q239 : x4_1 < (l0.length : Int):=zo_
   obtain ⟨ad239,e239,hx239_0⟩:=Kd.at_string HR0.out x4_1 p239 q239
   cases e239
   replace hx239_0:=(HB.out.cell (zb_ w _ hx239_0)).trans hx239_0
   replace p239:=eq_true p239
   replace q239:=eq_true q239
   have p9 : 0 ≤ (x4_1 : Int):=zo_
   have q9 : (x4_1 : Int) < ((x3_1.length : Int) : Int):=zo_
   obtain ⟨go9,co9,eo9,gb9,gl9,cl9,HG9⟩:=Kd.R_form HO_3.out (by omega)
   (first|cases eo9|(injection eo9 with ea_ en_ ec_;(first|subst ea_|(injection ea_ with ea_;subst ea_));subst ec_;clear en_))
   have GB9:=zm_ gb9
   have GG9:=zm_ HG9
   clear gb9 gl9 HG9
   obtain ⟨hx9_0,hf9_0⟩:=Kd.R_celln (⟨#[]⟩ : ByteArray) HO_3.out (x4_1 : Int) p9 q9
   replace p9:=eq_true p9
   replace q9:=eq_true q9
   have HP10:=Kd.R_putg HO_3.out (x4_1 : Int) (rdOf ByteArray.empty l0 x4_1)
   go_wp2_with (first|((with_reducible refine gate_store (t:=9) (p:=20) rfl ?_);refine store_event (t:=9) (p:=20) (v:=?vo_w11) (w1:=(wr.setCell ⟨go9,(x4_1 : Int).toNat,none⟩ (.string (rdOf ByteArray.empty l0 x4_1)))) ?hg ?ho ?hn ?hr ?_;(case ho => rfl);(case hg => rfl);(case hn => rfl);(case hr => first|(go_simp;done)|(go_simp;rfl));intro w11 hw;have hg : wr.grownBy w11 (some go9):=(by rw [hw];exact HP10.2);have hp_ : Kd.R Kd.string 9 w11 w.heap.size (fun _ => True) (.slice (some ⟨go9,0,none⟩) x3_1.length co9) y240:=(by rw [hw,Ny240.out];exact HP10.1);clear HP10;have n0_:=zm_ (hp_);have n1_:=zm_ ((by rw [hw];exact zs_ (HB.out) GB9.out : Below w.heap.size w w11));clear HO_3;clear HB;have HO_3:=n0_;have HB:=n1_;clear n0_ n1_;clear hg hw hp_))
   go_roundg k1
   case measure => have:=HK1.out;omega
   case rel => exact ⟨(y240),(wrap64 (x4_1 + 1)),zV_,H',⟨by have:=HK1.out;omega⟩,⟨zO_⟩,⟨zG_⟩⟩
def laws_toIntS.l0 : Nat → List Int → List Int → Int → Option (List Int)
 |0,_,_,_ => none
 |k + 1,x0,x3,x4 => if x4 < (x0.length : Int) then (if 0 ≤ x4 then (if x4 < (x3.length : Int) then (laws_toIntS.l0 k x0 (x3.set (x4 : Int).toNat (rd x0 x4)) (wrap64 (x4 + 1))) else (none)) else (none)) else (some x3)
def laws_toIntS.f (k : Nat) (l0 : List Int) : Option (List Int):=if 0 ≤ (l0.length : Int) then (if ((l0.length : Int) : Int).toNat ≤ 35184372088832 then (laws_toIntS.l0 k l0 (List.replicate ((l0.length : Int) : Int).toNat 0) 0) else (none)) else (none)
theorem laws_toIntS.calls (k : Nat) (A0 : Option Addr) (c0 : Nat) (l0 : List Int) (r : List Int) (w : World) (hr0 : Kd.C (Kd.int .i64) w A0 l0.length l0) (hc0 : l0.length ≤ c0) (h : laws_toIntS.f k l0 = some r) :
  Calls Tryz.prog 84 #[.slice A0 l0.length c0] w fun e w' => ∃ v0_ : Value,e = .returned (v0_) ∧ Kd.R (Kd.int .i64) 3 w' w.heap.size (fun _ => True) v0_ r ∧ Below w.heap.size w w':=by
 have HR0:=zm_ hr0
 have HC0:=zm_ hc0
 clear hr0 hc0
 have HB:=zm_ (Below.refl w.heap.size w)
 have H : (if 0 ≤ (l0.length : Int) then (if ((l0.length : Int) : Int).toNat ≤ 35184372088832 then (laws_toIntS.l0 k l0 (List.replicate ((l0.length : Int) : Int).toNat 0) 0) else (none)) else (none)) = some r:=h
 clear h
 by_cases c2 : 0 ≤ (l0.length : Int)
 rotate_left
 ·rw [if_neg c2] at H
  cases H


 rw [if_pos c2] at H
 have c2b0:=eq_true c2
 have c2b1:=decide_eq_true c2
 clear c2
 by_cases c3 : ((l0.length : Int) : Int).toNat ≤ 35184372088832
 rotate_left
 ·rw [if_neg c3] at H
  cases H
 rw [if_pos c3] at H
 have c3b0:=eq_true c3
 have c3b1:=decide_eq_true c3
 clear c3
 obtain ⟨y241,hy241⟩ : ∃ y_ : List Int,y_ = (List.replicate ((l0.length : Int) : Int).toNat 0):=⟨_,rfl⟩
 replace H : (laws_toIntS.l0 k l0 y241 0) = some r:=by first|(rw [hy241];with_reducible exact H)|(have H2_:=(Option.bind_some _ _).symm.trans H;rw [hy241];with_reducible exact H2_)|(have H2_:=(Option.bind_some _ _).symm.trans H;with_reducible exact H2_)|with_reducible exact H|(rw [hy241];exact H)|exact H
 have Ny241:=zm_ hy241
 clear hy241
 have H':=zm_ H
 clear H
 go_enter Tryz.func84,Tryz.ntmps84
 go_wp2_with (first|((with_reducible refine gate_dst (N:=7) rfl ?_);refine Kd.R_make (Kd.int .i64) _ 3 rfl (N:=7) rfl 64 _ _ rfl (l0.length : Int) rfl rfl Tryz.underlying64 (.int .i64 0) 8 info3 rfl (by decide) (by omega) 0 (ok:=fun _ => True) (okp:=fun _ => True) rfl (fun _ hk => hk) trivial (zo_) (Nat.le_trans (Nat.mul_le_mul_right _ (zo_ : (l0.length : Int).toNat ≤ 35184372088832)) (by omega)) (Below.refl _ _) (Nat.le_refl _) ?_;intro v242 w4 ho5 hb hg_ hnew_;clear hg_ hnew_;(first|rw [← Ny241.out] at ho5|(simp only [Int.reduceToNat] at ho5;rw [← Ny241.out] at ho5));have n0_:=zm_ (Kd.R_lower ho5 (below_size zB_));have n1_:=zm_ (below_step zB_ hb);clear HB;have HO243:=n0_;have HB:=n1_;clear n0_ n1_;clear hb ho5))
 go_loopg [4] k (fun kq v4 w' => ∃ (x3_1 : List Int) (x4_1 : Int),v4 = .int .i64 x4_1 ∧ Aside0 (laws_toIntS.l0 kq l0 x3_1 x4_1 = some r) ∧ Aside0 (kq ≤ k) ∧ Aside0 (Kd.R (Kd.int .i64) 3 w' w.heap.size (fun _ => True) v242 x3_1) ∧ Aside0 (Below w.heap.size w w'))
 case atStart => exact ⟨(y241),(0),zV_,H',⟨Nat.le_refl _⟩,⟨zO_⟩,⟨zG_⟩⟩
 case round =>
  clear H'
  obtain ⟨x3_1,x4_1,rfl,HA,HK1,HO_3,HB⟩:=hrel
  cases gk with
  |zero => exact absurd HA.out (by simp [laws_toIntS.l0])
  |succ k1 =>
   have H:=HA.out
   clear HA
   simp only [laws_toIntS.l0] at H
   by_cases c6 : x4_1 < (l0.length : Int)
   rotate_left
   ·rw [if_neg c6] at H
    have c6b0:=decide_eq_false c6
    clear c6
    obtain rfl:=zi_ H
    go_wp2
    go_ret
    exact ⟨_,by first|rfl|(simp [errW_none,errW_some] <;> rfl)|(simp [*,errW_none,errW_some] <;> rfl),by (with_reducible repeat (first|apply Kd.R_alloc|apply Kd.R_drewN|apply Kd.R_drew));exact HO_3.out,zG_⟩
   rw [if_pos c6] at H
   have c6b0:=decide_eq_true c6
   clear c6
   by_cases c7 : 0 ≤ x4_1
   rotate_left
   ·rw [if_neg c7] at H
    cases H
   rw [if_pos c7] at H
   have c7b0:=decide_eq_true c7
   clear c7
   by_cases c8 : x4_1 < (x3_1.length : Int)
   rotate_left
   ·rw [if_neg c8] at H
    cases H
   rw [if_pos c8] at H
   have c8b0:=decide_eq_true c8
   clear c8
   obtain ⟨y245,hy245⟩ : ∃ y_ : List Int,y_ = (x3_1.set (x4_1 : Int).toNat (rd l0 x4_1)):=⟨_,rfl⟩
   replace H : (laws_toIntS.l0 k1 l0 y245 (wrap64 (x4_1 + 1))) = some r:=by first|(rw [hy245];with_reducible exact H)|(have H2_:=(Option.bind_some _ _).symm.trans H;rw [hy245];with_reducible exact H2_)|(have H2_:=(Option.bind_some _ _).symm.trans H;with_reducible exact H2_)|with_reducible exact H|(rw [hy245];exact H)|exact H
   have Ny245:=zm_ hy245
   clear hy245
   have H':=zm_ H
   clear H
   have p244 : 0 ≤ (x4_1 : Int):=zo_
   have q244 : x4_1 < (l0.length : Int):=zo_
   obtain ⟨ad244,e244,hx244_0⟩:=Kd.at_int HR0.out x4_1 p244 q244
   cases e244
   replace hx244_0:=(HB.out.cell (zb_ w _ hx244_0)).trans hx244_0
   replace p244:=eq_true p244
   replace q244:=eq_true q244
   have p9 : 0 ≤ (x4_1 : Int):=zo_
   have q9 : (x4_1 : Int) < ((x3_1.length : Int) : Int):=zo_
   obtain ⟨go9,co9,eo9,gb9,gl9,cl9,HG9⟩:=Kd.R_form HO_3.out (by omega)
   (first|cases eo9|(injection eo9 with ea_ en_ ec_;(first|subst ea_|(injection ea_ with ea_;subst ea_));subst ec_;clear en_))
   have GB9:=zm_ gb9
   have GG9:=zm_ HG9
   clear gb9 gl9 HG9
   obtain ⟨hx9_0,hf9_0⟩:=Kd.R_celln 0 HO_3.out (x4_1 : Int) p9 q9
   replace p9:=eq_true p9
   replace q9:=eq_true q9
   have HP10:=Kd.R_putg HO_3.out (x4_1 : Int) (rd l0 x4_1)
   go_wp2_with (first|((with_reducible refine gate_store (t:=3) (p:=20) rfl ?_);refine store_event (t:=3) (p:=20) (v:=?vo_w11) (w1:=(wr.setCell ⟨go9,(x4_1 : Int).toNat,none⟩ (.int .i64 (rd l0 x4_1)))) ?hg ?ho ?hn ?hr ?_;(case ho => rfl);(case hg => rfl);(case hn => rfl);(case hr => first|(go_simp;done)|(go_simp;rfl));intro w11 hw;have hg : wr.grownBy w11 (some go9):=(by rw [hw];exact HP10.2);have hp_ : Kd.R (Kd.int .i64) 3 w11 w.heap.size (fun _ => True) (.slice (some ⟨go9,0,none⟩) x3_1.length co9) y245:=(by rw [hw,Ny245.out];exact HP10.1);clear HP10;have n0_:=zm_ (hp_);have n1_:=zm_ ((by rw [hw];exact zs_ (HB.out) GB9.out : Below w.heap.size w w11));clear HO_3;clear HB;have HO_3:=n0_;have HB:=n1_;clear n0_ n1_;clear hg hw hp_))
   go_roundg k1
   case measure => have:=HK1.out;omega
   case rel => exact ⟨(y245),(wrap64 (x4_1 + 1)),zV_,H',⟨by have:=HK1.out;omega⟩,⟨zO_⟩,⟨zG_⟩⟩
def laws_toExNode.f (k : Nat) (a0_0 : Int) (a0_1 : Int) (a0_2 : ByteArray) (l0_3 : List Int) : Option (Int × Int × ByteArray × List Int):=(laws_toIntS.f k l0_3).bind fun t249 => (some (a0_0,a0_1,a0_2,t249))
theorem laws_toExNode.calls (k : Nat) (a0_0 : Int) (a0_1 : Int) (a0_2 : ByteArray) (A0_3 : Option Addr) (c0_3 : Nat) (l0_3 : List Int) (r1 : Int) (r2 : Int) (r3 : ByteArray) (r4 : List Int) (w : World) (hr0_3 : Kd.C (Kd.int .i64) w A0_3 l0_3.length l0_3) (hc0_3 : l0_3.length ≤ c0_3) (h : laws_toExNode.f k a0_0 a0_1 a0_2 l0_3 = some (r1,r2,r3,r4)) :
  Calls Tryz.prog 183 #[.agg #[.int .i64 a0_0,.int .i64 a0_1,.string a0_2,.slice A0_3 l0_3.length c0_3]] w fun e w' => ∃ v3_ : Value,e = .returned (.agg #[.int .i64 r1,.int .i64 r2,.string r3,v3_]) ∧ Kd.R (Kd.int .i64) 3 w' w.heap.size (fun _ => True) v3_ r4 ∧ Below w.heap.size w w':=by
 have hu219:=Tryz.underlying219
 have hu147:=Tryz.underlying147
 have HR0_3:=zm_ hr0_3
 have HC0_3:=zm_ hc0_3
 clear hr0_3 hc0_3
 have HB:=zm_ (Below.refl w.heap.size w)
 have H : ((laws_toIntS.f k l0_3).bind fun t249 => (some (a0_0,a0_1,a0_2,t249))) = some (r1,r2,r3,r4):=h
 clear h
 obtain ⟨t249,A2,H⟩:=zJ_ H
 try dsimp only at H
 simp only [Option.some.injEq,Prod.mk.injEq] at H
 obtain ⟨rfl,rfl,rfl,rfl⟩:=H
 go_enter Tryz.func183,Tryz.ntmps183
 go_wp2_with (first|((with_reducible refine gate_dst (N:=1) rfl ?_);refine box_event ?hg (N:=1) ?hd (cs:=#[.int .i64 a0_0,.int .i64 a0_1,.string a0_2,.slice A0_3 l0_3.length c0_3]) (t:=219) ?hr ?_;(case hd => rfl);(case hg => rfl);(case hr => first|(go_simp;done)|(go_simp;rfl));intro gb246 hg w3 hbox hb;have n0_:=zm_ (below_step zB_ hb);have n1_:=zm_ (hbox);have n2_:=zm_ ((by rw [hg];exact (below_size zB_) : w.heap.size ≤ gb246));have n3_:=zm_ ((by rw [hg];exact (below_size zB_) : w.heap.size ≤ gb246));clear HB;have HB:=n0_;have BK246:=n1_;have GW246:=n2_;have GE246:=n3_;clear n0_ n1_ n2_ n3_;clear hb hbox hg)|((with_reducible refine gate_dst (N:=2) rfl ?_);refine box_event ?hg (N:=2) ?hd (cs:=#[.int .i64 0,.int .i64 0,.string (⟨#[]⟩ : ByteArray),.slice none 0 0]) (t:=147) ?hr ?_;(case hd => rfl);(case hg => rfl);(case hr => first|(go_simp;done)|(go_simp;rfl));intro gb247 hg w4 hbox hb;have n0_:=zm_ (blk_below (g:=gb246) (o:=.cells #[.int .i64 a0_0,.int .i64 a0_1,.string a0_2,.slice A0_3 l0_3.length c0_3] 219 (0,0)) zK_ hb);have n1_:=zm_ (below_step zG_ hb);have n2_:=zm_ (hbox);have n3_:=zm_ ((by rw [hg];exact (below_size zG_) : w.heap.size ≤ gb247));have n4_:=zm_ ((by rw [hg];exact (below_size zG_) : w.heap.size ≤ gb247));have n5_:=zm_ ((zt11_22 : gb246 ≠ gb247));have n6_:=zm_ ((zt11_23 : gb247 ≠ gb246));clear BK246;clear HB;have BK246:=n0_;have HB:=n1_;have BK247:=n2_;have GW247:=n3_;have GE247:=n4_;have NB246_247:=n5_;have NB247_246:=n6_;clear n0_ n1_ n2_ n3_ n4_ n5_ n6_;clear hb hbox hg)|((with_reducible refine gate_dst (N:=3) rfl ?_);refine box_event ?hg (N:=3) ?hd (cs:=#[.int .i64 0,.int .i64 0,.string (⟨#[]⟩ : ByteArray),.slice none 0 0]) (t:=147) ?hr ?_;(case hd => rfl);(case hg => rfl);(case hr => first|(go_simp;done)|(go_simp;rfl));intro gb248 hg w5 hbox hb;have n0_:=zm_ (blk_below (g:=gb246) (o:=.cells #[.int .i64 a0_0,.int .i64 a0_1,.string a0_2,.slice A0_3 l0_3.length c0_3] 219 (0,0)) zK_ hb);have n1_:=zm_ (blk_below (g:=gb247) (o:=.cells #[.int .i64 0,.int .i64 0,.string (⟨#[]⟩ : ByteArray),.slice none 0 0] 147 (0,0)) zK_ hb);have n2_:=zm_ (below_step zG_ hb);have n3_:=zm_ (hbox);have n4_:=zm_ ((by rw [hg];exact (below_size zG_) : w.heap.size ≤ gb248));have n5_:=zm_ ((by rw [hg];exact (below_size zG_) : w.heap.size ≤ gb248));have n6_:=zm_ ((zt11_22 : gb246 ≠ gb248));have n7_:=zm_ ((zt11_23 : gb248 ≠ gb246));have n8_:=zm_ ((by rw [hg];exact Nat.ne_of_lt (blk_lt (g:=gb247) (o:=.cells #[.int .i64 0,.int .i64 0,.string (⟨#[]⟩ : ByteArray),.slice none 0 0] 147 (0,0)) zK_) : gb247 ≠ gb248));have n9_:=zm_ ((by rw [hg];exact Nat.ne_of_gt (blk_lt (g:=gb247) (o:=.cells #[.int .i64 0,.int .i64 0,.string (⟨#[]⟩ : ByteArray),.slice none 0 0] 147 (0,0)) zK_) : gb248 ≠ gb247));clear BK246;clear BK247;clear HB;have BK246:=n0_;have BK247:=n1_;have HB:=n2_;have BK248:=n3_;have GW248:=n4_;have GE248:=n5_;have NB246_248:=n6_;have NB248_246:=n7_;have NB247_248:=n8_;have NB248_247:=n9_;clear n0_ n1_ n2_ n3_ n4_ n5_ n6_ n7_ n8_ n9_;clear hb hbox hg;have hnb6:=NB246_247.out;have hnc6:=NB247_246.out;have hnb7:=NB246_248.out;have hnc7:=NB248_246.out;have hcz8_0 : w5.cell? ⟨gb246,0,none⟩ = some (.int .i64 a0_0):=(zc_ BK246.out 0).trans rfl;have hcz8_1 : w5.cell? ⟨gb246,1,none⟩ = some (.int .i64 a0_1):=(zc_ BK246.out 1).trans rfl;have hcz8_2 : w5.cell? ⟨gb246,2,none⟩ = some (.string a0_2):=(zc_ BK246.out 2).trans rfl;have hcz8_3 : w5.cell? ⟨gb246,3,none⟩ = some (.slice A0_3 l0_3.length c0_3):=(zc_ BK246.out 3).trans rfl;have hfz8_0:=zf_ BK246.out 0;have hfz8_1:=zf_ BK246.out 1;have hfz8_2:=zf_ BK246.out 2;have hfz8_3:=zf_ BK246.out 3;have hnb9:=NB248_247.out;have hnc9:=NB247_248.out;have hcz10_0 : w5.cell? ⟨gb248,0,none⟩ = some (.int .i64 0):=(zc_ BK248.out 0).trans rfl;have hcz10_1 : w5.cell? ⟨gb248,1,none⟩ = some (.int .i64 0):=(zc_ BK248.out 1).trans rfl;have hcz10_2 : w5.cell? ⟨gb248,2,none⟩ = some (.string (⟨#[]⟩ : ByteArray)):=(zc_ BK248.out 2).trans rfl;have hcz10_3 : w5.cell? ⟨gb248,3,none⟩ = some (.slice none 0 0):=(zc_ BK248.out 3).trans rfl;have hfz10_0:=zf_ BK248.out 0;have hfz10_1:=zf_ BK248.out 1;have hfz10_2:=zf_ BK248.out 2;have hfz10_3:=zf_ BK248.out 3)|((with_reducible refine gate_callee (f:=84) rfl ?_);refine goesL_ (some 15) rfl rfl Tryz.func84 (by kernel_rfl) rfl #[.slice A0_3 l0_3.length c0_3] rfl zq_ ?_;(with_reducible refine (laws_toIntS.calls k _ _ l0_3 t249 _ ?side1 ?side2 A2.out).mono ?_);(case side1 => exact Kd.C_below HR0_3.out zG_);(case side2 => exact HC0_3.out);rintro e w11 ⟨v250,rfl,ho0,hb⟩;refine ⟨_,rfl,?_⟩;have n0_:=zm_ (Kd.R_lower ho0 (below_size zG_));have n1_:=zm_ (blk_below (g:=gb246) (o:=.cells #[.int .i64 a0_0,.int .i64 a0_1,.string a0_2,.slice A0_3 l0_3.length c0_3] 219 (0,0)) (by (with_reducible repeat first|refine zl_ ?_ _|refine zr_ ?_|refine zk_ ?_ _);refine blk_far ?_ NB246_248.out _;(with_reducible repeat first|refine zl_ ?_ _|refine zr_ ?_|refine zk_ ?_ _);refine blk_far ?_ NB246_248.out _;(with_reducible repeat first|refine zl_ ?_ _|refine zr_ ?_|refine zk_ ?_ _);refine blk_far ?_ NB246_248.out _;(with_reducible repeat first|refine zl_ ?_ _|refine zr_ ?_|refine zk_ ?_ _);exact BK246.out) hb);have n2_:=zm_ (blk_below (g:=gb247) (o:=.cells #[.int .i64 0,.int .i64 0,.string (⟨#[]⟩ : ByteArray),.slice none 0 0] 147 (0,0)) (by (with_reducible repeat first|refine zl_ ?_ _|refine zr_ ?_|refine zk_ ?_ _);refine blk_far ?_ NB247_248.out _;(with_reducible repeat first|refine zl_ ?_ _|refine zr_ ?_|refine zk_ ?_ _);refine blk_far ?_ NB247_248.out _;(with_reducible repeat first|refine zl_ ?_ _|refine zr_ ?_|refine zk_ ?_ _);refine blk_far ?_ NB247_248.out _;(with_reducible repeat first|refine zl_ ?_ _|refine zr_ ?_|refine zk_ ?_ _);exact BK247.out) hb);have n3_:=zm_ (blk_below (g:=gb248) (o:=.cells #[.int .i64 a0_0,.int .i64 a0_1,.string a0_2,.slice none 0 0] 147 (0,0)) (by (with_reducible repeat first|refine zl_ ?_ _|refine zr_ ?_|refine zk_ ?_ _);refine blk_put (cs:=#[.int .i64 a0_0,.int .i64 a0_1,.string (⟨#[]⟩ : ByteArray),.slice none 0 0]) ?_ 2 _ rfl;(with_reducible repeat first|refine zl_ ?_ _|refine zr_ ?_|refine zk_ ?_ _);refine blk_put (cs:=#[.int .i64 a0_0,.int .i64 0,.string (⟨#[]⟩ : ByteArray),.slice none 0 0]) ?_ 1 _ rfl;(with_reducible repeat first|refine zl_ ?_ _|refine zr_ ?_|refine zk_ ?_ _);refine blk_put (cs:=#[.int .i64 0,.int .i64 0,.string (⟨#[]⟩ : ByteArray),.slice none 0 0]) ?_ 0 _ rfl;(with_reducible repeat first|refine zl_ ?_ _|refine zr_ ?_|refine zk_ ?_ _);exact BK248.out) hb);have n4_:=zm_ (below_step zG_ hb);clear BK246;clear BK247;clear BK248;clear HB;have HO251:=n0_;have BK246:=n1_;have BK247:=n2_;have BK248:=n3_;have HB:=n4_;clear n0_ n1_ n2_ n3_ n4_;(try clear hb);(try clear hb2);(try clear hk);(try clear hi);(try clear ho0);obtain ⟨Ao12,co12,eo12⟩:=Kd.R_slice HO251.out;subst eo12;have hcz13_0 : w11.cell? ⟨gb248,0,none⟩ = some (.int .i64 a0_0):=(zc_ BK248.out 0).trans rfl;have hcz13_1 : w11.cell? ⟨gb248,1,none⟩ = some (.int .i64 a0_1):=(zc_ BK248.out 1).trans rfl;have hcz13_2 : w11.cell? ⟨gb248,2,none⟩ = some (.string a0_2):=(zc_ BK248.out 2).trans rfl;have hcz13_3 : w11.cell? ⟨gb248,3,none⟩ = some (.slice none 0 0):=(zc_ BK248.out 3).trans rfl;have hfz13_0:=zf_ BK248.out 0;have hfz13_1:=zf_ BK248.out 1;have hfz13_2:=zf_ BK248.out 2;have hfz13_3:=zf_ BK248.out 3;have hcz14_0 : w11.cell? ⟨gb247,0,none⟩ = some (.int .i64 0):=(zc_ BK247.out 0).trans rfl;have hcz14_1 : w11.cell? ⟨gb247,1,none⟩ = some (.int .i64 0):=(zc_ BK247.out 1).trans rfl;have hcz14_2 : w11.cell? ⟨gb247,2,none⟩ = some (.string (⟨#[]⟩ : ByteArray)):=(zc_ BK247.out 2).trans rfl;have hcz14_3 : w11.cell? ⟨gb247,3,none⟩ = some (.slice none 0 0):=(zc_ BK247.out 3).trans rfl;have hfz14_0:=zf_ BK247.out 0;have hfz14_1:=zf_ BK247.out 1;have hfz14_2:=zf_ BK247.out 2;have hfz14_3:=zf_ BK247.out 3))
 refine bodyPost_ret (results_cell_row rfl _ _ gb247 147 #[.int .i64 a0_0,.int .i64 a0_1,.string a0_2,.slice Ao12 t249.length co12] (0,0) _ rfl (by (with_reducible repeat first|refine zl_ ?_ _|refine zr_ ?_|refine zk_ ?_ _);refine blk_put (cs:=#[.int .i64 a0_0,.int .i64 a0_1,.string a0_2,.slice none 0 0]) ?_ 3 _ rfl;(with_reducible repeat first|refine zl_ ?_ _|refine zr_ ?_|refine zk_ ?_ _);refine blk_put (cs:=#[.int .i64 a0_0,.int .i64 a0_1,.string (⟨#[]⟩ : ByteArray),.slice none 0 0]) ?_ 2 _ rfl;(with_reducible repeat first|refine zl_ ?_ _|refine zr_ ?_|refine zk_ ?_ _);refine blk_put (cs:=#[.int .i64 a0_0,.int .i64 0,.string (⟨#[]⟩ : ByteArray),.slice none 0 0]) ?_ 1 _ rfl;(with_reducible repeat first|refine zl_ ?_ _|refine zr_ ?_|refine zk_ ?_ _);refine blk_put (cs:=#[.int .i64 0,.int .i64 0,.string (⟨#[]⟩ : ByteArray),.slice none 0 0]) ?_ 0 _ rfl;(with_reducible repeat first|refine zl_ ?_ _|refine zr_ ?_|refine zk_ ?_ _);refine blk_far ?_ NB247_248.out _;(with_reducible repeat first|refine zl_ ?_ _|refine zr_ ?_|refine zk_ ?_ _);exact BK247.out) Tryz.underlying147 rfl (by kernel_rfl)) rfl ?_
 exact ⟨_,by first|rfl|(simp [errW_none,errW_some] <;> rfl)|(simp [*,errW_none,errW_some] <;> rfl),by (with_reducible repeat (first|apply Kd.R_alloc|apply Kd.R_drewN|apply Kd.R_drew));exact Kd.R_mono (Kd.R_far (p:=⟨gb247,3,none⟩) (Kd.R_far (p:=⟨gb247,2,none⟩) (Kd.R_far (p:=⟨gb247,1,none⟩) (Kd.R_far (p:=⟨gb247,0,none⟩) (Kd.R_far (p:=⟨gb248,3,none⟩) (Kd.R_types (Kd.R_types HO251.out BK248.out (by decide)) BK247.out (by decide)) (fun _ hk => hk.1.2) (.slice Ao12 t249.length co12)) (fun _ hk => hk.2) (.int .i64 a0_0)) (fun _ hk => hk.2) (.int .i64 a0_1)) (fun _ hk => hk.2) (.string a0_2)) (fun _ hk => hk.2) (.slice Ao12 t249.length co12)) (fun _ hk => trivial),zG_⟩

def laws_toExNodeS.l0 : Nat → List (S219) → List (S147) → Int → Option ((List (S147)))
 |0,_,_,_ => none
 |k + 1,x0,x3,x4 => if x4 < (x0.length : Int) then (if 0 ≤ x4 then ((laws_toExNode.f k ((rd_T219 x0 x4).f0) ((rd_T219 x0 x4).f1) ((rd_T219 x0 x4).f2) ((rd_T219 x0 x4).f3)).bind fun bt256 => (if x4 < (x3.length : Int) then (laws_toExNodeS.l0 k x0 (x3.set (x4 : Int).toNat (⟨bt256.1,bt256.2.1,bt256.2.2.1,bt256.2.2.2⟩ : S147)) (wrap64 (x4 + 1))) else (none))) else (none)) else (some x3)
def laws_toExNodeS.f (k : Nat) (l0 : List (S219)) : Option ((List (S147))):=if 0 ≤ (l0.length : Int) then (if ((l0.length : Int) : Int).toNat ≤ 5026338869833 then (laws_toExNodeS.l0 k l0 (List.replicate ((l0.length : Int) : Int).toNat z147) 0) else (none)) else (none)
theorem laws_toExNodeS.calls (k : Nat) (A0 : Option Addr) (c0 : Nat) (l0 : List (S219)) (r : List (S147)) (w : World) (hr0 : Kd.C k219 w A0 l0.length l0) (hc0 : l0.length ≤ c0) (h : laws_toExNodeS.f k l0 = some r) :
  Calls Tryz.prog 178 #[.slice A0 l0.length c0] w fun e w' => ∃ v0_ : Value,e = .returned (v0_) ∧ Kd.S k147 147 w' w.heap.size (fun _ => True) v0_ r ∧ Below w.heap.size w w':=by
 have hu219:=Tryz.underlying219
 have hu147:=Tryz.underlying147
 have HR0:=zm_ hr0
 have HC0:=zm_ hc0
 clear hr0 hc0
 have HB:=zm_ (Below.refl w.heap.size w)
 have H : (if 0 ≤ (l0.length : Int) then (if ((l0.length : Int) : Int).toNat ≤ 5026338869833 then (laws_toExNodeS.l0 k l0 (List.replicate ((l0.length : Int) : Int).toNat z147) 0) else (none)) else (none)) = some r:=h
 clear h
 by_cases c2 : 0 ≤ (l0.length : Int)
 rotate_left
 ·rw [if_neg c2] at H
  cases H


 rw [if_pos c2] at H
 have c2b0:=eq_true c2
 have c2b1:=decide_eq_true c2
 clear c2
 by_cases c3 : ((l0.length : Int) : Int).toNat ≤ 5026338869833
 rotate_left
 ·rw [if_neg c3] at H
  cases H
 rw [if_pos c3] at H
 have c3b0:=eq_true c3
 have c3b1:=decide_eq_true c3
 clear c3
 obtain ⟨y252,hy252⟩ : ∃ y_ : List (S147),y_ = (List.replicate ((l0.length : Int) : Int).toNat z147):=⟨_,rfl⟩
 replace H : (laws_toExNodeS.l0 k l0 y252 0) = some r:=by first|(rw [hy252];with_reducible exact H)|(have H2_:=(Option.bind_some _ _).symm.trans H;rw [hy252];with_reducible exact H2_)|(have H2_:=(Option.bind_some _ _).symm.trans H;with_reducible exact H2_)|with_reducible exact H|(rw [hy252];exact H)|exact H
 have Ny252:=zm_ hy252
 clear hy252
 have H':=zm_ H
 clear H
 go_enter Tryz.func178,Tryz.ntmps178
 go_wp2_with (first|((with_reducible refine gate_dst (N:=7) rfl ?_);refine Kd.S_make k147 _ 147 rfl (N:=7) rfl 121 _ _ rfl (l0.length : Int) rfl rfl Tryz.underlying121 (.agg #[(.int .i64 0),(.int .i64 0),(.string ⟨#[]⟩),(.slice none 0 0)]) 56 info147 rfl (by decide) (by omega) z147 (ok:=fun _ => True) (okp:=fun _ => True) (k147_mkM _ _ _ z147 (Kd.R_nil _ _ _ _ _)) (fun _ hk => hk) trivial (zo_) (Nat.le_trans (Nat.mul_le_mul_right _ (zo_ : (l0.length : Int).toNat ≤ 5026338869833)) (by omega)) (Below.refl _ _) (Nat.le_refl _) ?_;intro v253 w4 ho5 hb hg_ hnew_;clear hg_ hnew_;(first|rw [← Ny252.out] at ho5|(simp only [Int.reduceToNat] at ho5;rw [← Ny252.out] at ho5));have n0_:=zm_ (Kd.S_lower ho5 (below_size zB_));have n1_:=zm_ (below_step zB_ hb);clear HB;have HO254:=n0_;have HB:=n1_;clear n0_ n1_;clear hb ho5))
 go_loopg [4] k (fun kq v4 w' => ∃ (x3_1 : List (S147)) (x4_1 : Int),v4 = .int .i64 x4_1 ∧ Aside0 (laws_toExNodeS.l0 kq l0 x3_1 x4_1 = some r) ∧ Aside0 (kq ≤ k) ∧ Aside0 (Kd.S k147 147 w' w.heap.size (fun _ => True) v253 x3_1) ∧ Aside0 (Below w.heap.size w w'))
 case atStart => exact ⟨(y252),(0),zV_,H',⟨Nat.le_refl _⟩,⟨by (with_reducible repeat (first|apply Kd.S_alloc|apply Kd.S_drewN|apply Kd.S_drew));exact HO254.out⟩,⟨zG_⟩⟩
 case round =>
  clear H'
  obtain ⟨x3_1,x4_1,rfl,HA,HK1,HO_3,HB⟩:=hrel
  cases gk with
  |zero => exact absurd HA.out (by simp [laws_toExNodeS.l0])
  |succ k1 =>
   have H:=HA.out
   clear HA
   simp only [laws_toExNodeS.l0] at H
   by_cases c6 : x4_1 < (l0.length : Int)
   rotate_left
   ·rw [if_neg c6] at H
    have c6b0:=decide_eq_false c6
    clear c6
    obtain rfl:=zi_ H
    go_wp2
    go_ret
    exact ⟨_,by first|rfl|(simp [errW_none,errW_some] <;> rfl)|(simp [*,errW_none,errW_some] <;> rfl),by (with_reducible repeat (first|apply Kd.S_alloc|apply Kd.S_drewN|apply Kd.S_drew));exact HO_3.out,zG_⟩
   rw [if_pos c6] at H
   have c6b0:=decide_eq_true c6
   clear c6
   by_cases c7 : 0 ≤ x4_1
   rotate_left
   ·rw [if_neg c7] at H
    cases H
   rw [if_pos c7] at H
   have c7b0:=decide_eq_true c7
   clear c7
   obtain ⟨⟨t256,t257,t258,t259⟩,A8,H⟩:=zJ_ H
   try dsimp only at H
   by_cases c9 : x4_1 < (x3_1.length : Int)
   rotate_left
   ·rw [if_neg c9] at H
    cases H
   rw [if_pos c9] at H
   have c9b0:=decide_eq_true c9
   clear c9
   obtain ⟨y262,hy262⟩ : ∃ y_ : List (S147),y_ = (x3_1.set (x4_1 : Int).toNat (⟨t256,t257,t258,t259⟩ : S147)):=⟨_,rfl⟩
   replace H : (laws_toExNodeS.l0 k1 l0 y262 (wrap64 (x4_1 + 1))) = some r:=by first|(rw [hy262];with_reducible exact H)|(have H2_:=(Option.bind_some _ _).symm.trans H;rw [hy262];with_reducible exact H2_)|(have H2_:=(Option.bind_some _ _).symm.trans H;with_reducible exact H2_)|with_reducible exact H|(rw [hy262];exact H)|exact H
   have Ny262:=zm_ hy262
   clear hy262
   have H':=zm_ H
   clear H
   have p255 : 0 ≤ (x4_1 : Int):=zo_
   have q255 : x4_1 < (l0.length : Int):=zo_
   obtain ⟨ad255,A255_3,c255_3,e255,hx255_0,hx255_1,hx255_2,hx255_3,hl255_3,hi255_3⟩:=at_T219 HR0.out x4_1 p255 q255
   cases e255
   replace hx255_0:=(HB.out.cell (zb_ w _ hx255_0)).trans hx255_0
   replace hx255_1:=(HB.out.cell (zb_ w _ hx255_1)).trans hx255_1
   replace hx255_2:=(HB.out.cell (zb_ w _ hx255_2)).trans hx255_2
   replace hx255_3:=(HB.out.cell (zb_ w _ hx255_3)).trans hx255_3
   have HR255_3:=zm_ hi255_3
   have HC255_3:=zm_ hl255_3
   clear hi255_3 hl255_3
   replace p255:=eq_true p255
   replace q255:=eq_true q255
   go_wp2_with (first|((with_reducible refine gate_callee (f:=183) rfl ?_);refine goesL_ (some 20) rfl rfl Tryz.func183 (by kernel_rfl) rfl #[.agg #[.int .i64 ((rd_T219 l0 x4_1).f0),.int .i64 ((rd_T219 l0 x4_1).f1),.string ((rd_T219 l0 x4_1).f2),.slice A255_3 ((rd_T219 l0 x4_1).f3).length c255_3]] rfl zq_ ?_;(with_reducible refine (laws_toExNode.calls k1 ((rd_T219 l0 x4_1).f0) ((rd_T219 l0 x4_1).f1) ((rd_T219 l0 x4_1).f2) _ _ ((rd_T219 l0 x4_1).f3) t256 t257 t258 t259 _ ?side1 ?side2 A8.out).mono ?_);(case side1 => exact zP_);(case side2 => exact HC255_3.out);rintro e w11 ⟨v260,rfl,ho0,hb⟩;refine ⟨_,rfl,?_⟩;have n0_:=zm_ (Kd.S_elder' (by (with_reducible repeat (first|apply Kd.S_alloc|apply Kd.S_drewN|apply Kd.S_drew));exact HO_3.out) (Kd.R_base ho0) hb);have n1_:=zm_ (Kd.R_lower ho0 (below_size zB_));have n2_:=zm_ (below_step zB_ hb);clear HO_3;clear HB;have HO_3:=n0_;have HO261:=n1_;have HB:=n2_;clear n0_ n1_ n2_;(try clear hb);(try clear hb2);(try clear hk);(try clear hi);(try clear ho0);have p10 : 0 ≤ (x4_1 : Int):=zo_;have q10 : (x4_1 : Int) < ((x3_1.length : Int) : Int):=zo_;obtain ⟨go10,co10,eo10,gb10,gl10,cl10,HG10⟩:=Kd.S_form HO_3.out (by omega);(first|cases eo10|(injection eo10 with ea_ en_ ec_;(first|subst ea_|(injection ea_ with ea_;subst ea_));subst ec_;clear en_));have GB10:=zm_ gb10;have GG10:=zm_ HG10;clear gb10 gl10 HG10;obtain ⟨_,ce10,hcl10,hM10,hcc10,hfr10,_,_⟩:=Kd.S_elem HO_3.out z147 (x4_1 : Int) p10 q10;obtain ⟨ve10_3,rfl,ge10_3⟩:=k147_openM hM10;have hx10_0 : w11.cell? ⟨go10,(x4_1 : Int).toNat * 4,none⟩ = some (.int .i64 ((rd_T147 x3_1 x4_1).f0)):=hcc10 0 _ rfl;have hx10_1 : w11.cell? ⟨go10,(x4_1 : Int).toNat * 4 + 1,none⟩ = some (.int .i64 ((rd_T147 x3_1 x4_1).f1)):=hcc10 1 _ rfl;have hx10_2 : w11.cell? ⟨go10,(x4_1 : Int).toNat * 4 + 2,none⟩ = some (.string ((rd_T147 x3_1 x4_1).f2)):=hcc10 2 _ rfl;have hx10_3 : w11.cell? ⟨go10,(x4_1 : Int).toNat * 4 + 3,none⟩ = some (ve10_3):=hcc10 3 _ rfl;have hf10_0 : w11.frozen? ⟨go10,(x4_1 : Int).toNat * 4,none⟩ = false:=hfr10 0;have hf10_1 : w11.frozen? ⟨go10,(x4_1 : Int).toNat * 4 + 1,none⟩ = false:=hfr10 1;have hf10_2 : w11.frozen? ⟨go10,(x4_1 : Int).toNat * 4 + 2,none⟩ = false:=hfr10 2;have hf10_3 : w11.frozen? ⟨go10,(x4_1 : Int).toNat * 4 + 3,none⟩ = false:=hfr10 3;clear hcl10 hcc10 hfr10 hM10;replace p10:=eq_true p10;replace q10:=eq_true q10;have n_:=zm_ (Kd.S_mono (ok':=(fun k_ => some k_ ≠ (v260 : Value).ownBlock)) HO_3.out (fun k_ hk => hk.2));clear HO_3;have HO_3:=n_;clear n_;have HX12:=zm_ (show Kd.S k147 147 w11 w.heap.size (fun k_ => ((fun _ => True)) k_ ∧ ¬ ((fun k_ => some k_ = (v260 : Value).ownBlock)) k_) (.slice (some ⟨go10,0,none⟩) x3_1.length co10) x3_1 from (by (with_reducible repeat (first|apply Kd.S_alloc|apply Kd.S_drewN|apply Kd.S_drew));exact Kd.S_mono HO_3.out (fun k_ hk => ⟨trivial,fun e_ => hk e_⟩)));obtain ⟨oki12,ce12,hcl12,hM12,hcc12,hfr12,hoki12,hH12⟩:=Kd.S_elem HX12.out z147 (x4_1 : Int) (zo_) zt11_26;obtain ⟨ve12_3,rfl,ge12_3⟩:=k147_openM hM12;have HP12:=Kd.S_seg hH12 (zo_) zt11_26 (seg:=[.int .i64 t256,.int .i64 t257,.string t258,v260]) (j:=0) (show 4 ≤ 4 from by decide) (x':=(⟨t256,t257,t258,t259⟩ : S147)) (k147_mkM _ _ _ (⟨t256,t257,t258,t259⟩ : S147) (Kd.R_mono (Kd.R_tight rfl (Kd.R_mono (ok':=fun k_ => ((fun _ => True)) k_ ∧ k_ ≠ go10) (Kd.R_apart' (HO261.out) (Kd.S_typed HO_3.out) (by decide)) (fun k_ hk => ⟨trivial,fun e_ => (hk.2) (by rw [e_];rfl)⟩))) (fun _ h_ => Or.inr (h_)))) (fun _ hk => hk) (fun k_ hk_ => ((Kd.R_mono (ok':=fun k_ => ((fun _ => True)) k_ ∧ k_ ≠ go10) (Kd.R_apart' (HO261.out) (Kd.S_typed HO_3.out) (by decide)) (fun k_ hk => ⟨trivial,fun e_ => (hk.2) (by rw [e_];rfl)⟩))).1 k_ hk_.symm);have hx12_0:=hcc12 0 _ rfl;(try simp only [show (k147).sz = 4 from rfl,Nat.mul_one,Nat.add_zero] at hx12_0);have hf12_0:=hfr12 0;(try simp only [show (k147).sz = 4 from rfl,Nat.mul_one,Nat.add_zero] at hf12_0);have hx12_1:=hcc12 1 _ rfl;(try simp only [show (k147).sz = 4 from rfl,Nat.mul_one,Nat.add_zero] at hx12_1);have hf12_1:=hfr12 1;(try simp only [show (k147).sz = 4 from rfl,Nat.mul_one,Nat.add_zero] at hf12_1);have hx12_2:=hcc12 2 _ rfl;(try simp only [show (k147).sz = 4 from rfl,Nat.mul_one,Nat.add_zero] at hx12_2);have hf12_2:=hfr12 2;(try simp only [show (k147).sz = 4 from rfl,Nat.mul_one,Nat.add_zero] at hf12_2);have hx12_3:=hcc12 3 _ rfl;(try simp only [show (k147).sz = 4 from rfl,Nat.mul_one,Nat.add_zero] at hx12_3);have hf12_3:=hfr12 3;(try simp only [show (k147).sz = 4 from rfl,Nat.mul_one,Nat.add_zero] at hf12_3);clear hcl12 hcc12 hfr12 hM12 hoki12 hH12)|((with_reducible refine gate_store (t:=147) (p:=21) rfl ?_);(first|have st3_:=store_own (P:=Tryz.prog) HO261.out|have st3_:=store_own (P:=Tryz.prog) (Kd.S_R HO261.out));refine store_event (t:=147) (p:=21) (v:=?vo_w13) (w1:=((((w11.setCell ⟨go10,(x4_1 : Int).toNat * 4,none⟩ (.int .i64 t256)).setCell ⟨go10,(x4_1 : Int).toNat * 4 + 1,none⟩ (.int .i64 t257)).setCell ⟨go10,(x4_1 : Int).toNat * 4 + 2,none⟩ (.string t258)).setCell ⟨go10,(x4_1 : Int).toNat * 4 + 3,none⟩ (v260))) ?hg ?ho ?hn ?hr ?_;(case ho => rfl);(case hg => rfl);(case hn => rfl);(case hr => first|(go_simp;done)|(go_simp;rfl));intro w13 hw;have hg : w11.grownBy w13 (some go10):=(by rw [hw];exact HP12.2);have hp_ : Kd.S k147 147 w13 w.heap.size (fun _ => True) (.slice (some ⟨go10,0,none⟩) x3_1.length co10) y262:=(by rw [hw,Ny262.out];exact HP12.1);clear HP12;have n0_:=zm_ (hp_);have n1_:=zm_ ((by rw [hw];exact zs_ (zs_ (zs_ (zs_ (HB.out) GB10.out) GB10.out) GB10.out) GB10.out : Below w.heap.size w w13));clear HO_3;clear HB;clear HO261;have HO_3:=n0_;have HB:=n1_;clear n0_ n1_;clear hg hw hp_))
   go_roundg k1
   case measure => have:=HK1.out;omega
   case rel => exact ⟨(y262),(wrap64 (x4_1 + 1)),zV_,H',⟨by have:=HK1.out;omega⟩,⟨by (with_reducible repeat (first|apply Kd.S_alloc|apply Kd.S_drewN|apply Kd.S_drew));exact HO_3.out⟩,⟨zG_⟩⟩
def laws_toExpr.f (k : Nat) (l0_0 : List (S219)) : Option ((List (S147))):=(laws_toExNodeS.f k l0_0).bind fun t266 => (some t266)
theorem laws_toExpr.calls (k : Nat) (A0_0 : Option Addr) (c0_0 : Nat) (l0_0 : List (S219)) (r : List (S147)) (w : World) (hr0_0 : Kd.C k219 w A0_0 l0_0.length l0_0) (hc0_0 : l0_0.length ≤ c0_0) (h : laws_toExpr.f k l0_0 = some r) :
  Calls Tryz.prog 165 #[.agg #[.slice A0_0 l0_0.length c0_0]] w fun e w' => ∃ v0_ : Value,e = .returned (.agg #[v0_]) ∧ Kd.S k147 147 w' w.heap.size (fun _ => True) v0_ r ∧ Below w.heap.size w w':=by
 have hu200:=Tryz.underlying200
 have hu123:=Tryz.underlying123
 have HR0_0:=zm_ hr0_0
 have HC0_0:=zm_ hc0_0
 clear hr0_0 hc0_0
 have HB:=zm_ (Below.refl w.heap.size w)
 have H : ((laws_toExNodeS.f k l0_0).bind fun t266 => (some t266)) = some r:=h
 clear h
 obtain ⟨t266,A2,H⟩:=zJ_ H
 try dsimp only at H
 obtain rfl:=zi_ H
 go_enter Tryz.func165,Tryz.ntmps165
 go_wp2_with (first|((with_reducible refine gate_dst (N:=1) rfl ?_);refine box_event ?hg (N:=1) ?hd (cs:=#[.slice A0_0 l0_0.length c0_0]) (t:=200) ?hr ?_;(case hd => rfl);(case hg => rfl);(case hr => first|(go_simp;done)|(go_simp;rfl));intro gb263 hg w3 hbox hb;have n0_:=zm_ (below_step zB_ hb);have n1_:=zm_ (hbox);have n2_:=zm_ ((by rw [hg];exact (below_size zB_) : w.heap.size ≤ gb263));have n3_:=zm_ ((by rw [hg];exact (below_size zB_) : w.heap.size ≤ gb263));clear HB;have HB:=n0_;have BK263:=n1_;have GW263:=n2_;have GE263:=n3_;clear n0_ n1_ n2_ n3_;clear hb hbox hg)|((with_reducible refine gate_dst (N:=2) rfl ?_);refine box_event ?hg (N:=2) ?hd (cs:=#[.slice none 0 0]) (t:=123) ?hr ?_;(case hd => rfl);(case hg => rfl);(case hr => first|(go_simp;done)|(go_simp;rfl));intro gb264 hg w4 hbox hb;have n0_:=zm_ (blk_below (g:=gb263) (o:=.cells #[.slice A0_0 l0_0.length c0_0] 200 (0,0)) zK_ hb);have n1_:=zm_ (below_step zG_ hb);have n2_:=zm_ (hbox);have n3_:=zm_ ((by rw [hg];exact (below_size zG_) : w.heap.size ≤ gb264));have n4_:=zm_ ((by rw [hg];exact (below_size zG_) : w.heap.size ≤ gb264));have n5_:=zm_ ((by rw [hg];exact Nat.ne_of_lt (blk_lt (g:=gb263) (o:=.cells #[.slice A0_0 l0_0.length c0_0] 200 (0,0)) zK_) : gb263 ≠ gb264));have n6_:=zm_ ((by rw [hg];exact Nat.ne_of_gt (blk_lt (g:=gb263) (o:=.cells #[.slice A0_0 l0_0.length c0_0] 200 (0,0)) zK_) : gb264 ≠ gb263));clear BK263;clear HB;have BK263:=n0_;have HB:=n1_;have BK264:=n2_;have GW264:=n3_;have GE264:=n4_;have NB263_264:=n5_;have NB264_263:=n6_;clear n0_ n1_ n2_ n3_ n4_ n5_ n6_;clear hb hbox hg)|((with_reducible refine gate_dst (N:=3) rfl ?_);refine box_event ?hg (N:=3) ?hd (cs:=#[.slice none 0 0]) (t:=123) ?hr ?_;(case hd => rfl);(case hg => rfl);(case hr => first|(go_simp;done)|(go_simp;rfl));intro gb265 hg w5 hbox hb;have n0_:=zm_ (blk_below (g:=gb263) (o:=.cells #[.slice A0_0 l0_0.length c0_0] 200 (0,0)) zK_ hb);have n1_:=zm_ (blk_below (g:=gb264) (o:=.cells #[.slice none 0 0] 123 (0,0)) zK_ hb);have n2_:=zm_ (below_step zG_ hb);have n3_:=zm_ (hbox);have n4_:=zm_ ((by rw [hg];exact (below_size zG_) : w.heap.size ≤ gb265));have n5_:=zm_ ((by rw [hg];exact (below_size zG_) : w.heap.size ≤ gb265));have n6_:=zm_ ((by rw [hg];exact Nat.ne_of_lt (blk_lt (g:=gb263) (o:=.cells #[.slice A0_0 l0_0.length c0_0] 200 (0,0)) zK_) : gb263 ≠ gb265));have n7_:=zm_ ((by rw [hg];exact Nat.ne_of_gt (blk_lt (g:=gb263) (o:=.cells #[.slice A0_0 l0_0.length c0_0] 200 (0,0)) zK_) : gb265 ≠ gb263));have n8_:=zm_ ((by rw [hg];exact Nat.ne_of_lt (blk_lt (g:=gb264) (o:=.cells #[.slice none 0 0] 123 (0,0)) zK_) : gb264 ≠ gb265));have n9_:=zm_ ((by rw [hg];exact Nat.ne_of_gt (blk_lt (g:=gb264) (o:=.cells #[.slice none 0 0] 123 (0,0)) zK_) : gb265 ≠ gb264));clear BK263;clear BK264;clear HB;have BK263:=n0_;have BK264:=n1_;have HB:=n2_;have BK265:=n3_;have GW265:=n4_;have GE265:=n5_;have NB263_265:=n6_;have NB265_263:=n7_;have NB264_265:=n8_;have NB265_264:=n9_;clear n0_ n1_ n2_ n3_ n4_ n5_ n6_ n7_ n8_ n9_;clear hb hbox hg;have hnb6:=NB263_264.out;have hnc6:=NB264_263.out;have hnb7:=NB263_265.out;have hnc7:=NB265_263.out;have hcz8_0 : w5.cell? ⟨gb263,0,none⟩ = some (.slice A0_0 l0_0.length c0_0):=(zc_ BK263.out 0).trans rfl;have hfz8_0:=zf_ BK263.out 0)|((with_reducible refine gate_callee (f:=178) rfl ?_);refine goesL_ (some 6) rfl rfl Tryz.func178 (by kernel_rfl) rfl #[.slice A0_0 l0_0.length c0_0] rfl zq_ ?_;(with_reducible refine (laws_toExNodeS.calls k _ _ l0_0 t266 _ ?side1 ?side2 A2.out).mono ?_);(case side1 => exact zP_);(case side2 => exact HC0_0.out);rintro e w9 ⟨v267,rfl,ho0,hb⟩;refine ⟨_,rfl,?_⟩;have n0_:=zm_ (Kd.S_lower ho0 (below_size zG_));have n1_:=zm_ (blk_below (g:=gb263) (o:=.cells #[.slice A0_0 l0_0.length c0_0] 200 (0,0)) zK_ hb);have n2_:=zm_ (blk_below (g:=gb264) (o:=.cells #[.slice none 0 0] 123 (0,0)) zK_ hb);have n3_:=zm_ (blk_below (g:=gb265) (o:=.cells #[.slice none 0 0] 123 (0,0)) zK_ hb);have n4_:=zm_ (below_step zG_ hb);clear BK263;clear BK264;clear BK265;clear HB;have HO268:=n0_;have BK263:=n1_;have BK264:=n2_;have BK265:=n3_;have HB:=n4_;clear n0_ n1_ n2_ n3_ n4_;(try clear hb);(try clear hb2);(try clear hk);(try clear hi);(try clear ho0);obtain ⟨Ao10,co10,eo10⟩:=Kd.S_slice HO268.out;subst eo10;have hnb11:=NB265_264.out;have hnc11:=NB264_265.out;have hcz12_0 : w9.cell? ⟨gb265,0,none⟩ = some (.slice none 0 0):=(zc_ BK265.out 0).trans rfl;have hfz12_0:=zf_ BK265.out 0;have hcz13_0 : w9.cell? ⟨gb264,0,none⟩ = some (.slice none 0 0):=(zc_ BK264.out 0).trans rfl;have hfz13_0:=zf_ BK264.out 0))
 refine bodyPost_ret (results_cell_row rfl _ _ gb264 123 #[.slice Ao10 t266.length co10] (0,0) _ rfl (by (with_reducible repeat first|refine zl_ ?_ _|refine zr_ ?_|refine zk_ ?_ _);refine blk_put (cs:=#[.slice none 0 0]) ?_ 0 _ rfl;(with_reducible repeat first|refine zl_ ?_ _|refine zr_ ?_|refine zk_ ?_ _);refine blk_far ?_ NB264_265.out _;(with_reducible repeat first|refine zl_ ?_ _|refine zr_ ?_|refine zk_ ?_ _);exact BK264.out) Tryz.underlying123 rfl (by kernel_rfl)) rfl ?_
 exact ⟨_,by first|rfl|(simp [errW_none,errW_some] <;> rfl)|(simp [*,errW_none,errW_some] <;> rfl),by (with_reducible repeat (first|apply Kd.S_alloc|apply Kd.S_drewN|apply Kd.S_drew));exact Kd.S_mono (Kd.S_far (p:=⟨gb264,0,none⟩) (Kd.S_far (p:=⟨gb265,0,none⟩) (Kd.S_types (Kd.S_types HO268.out BK265.out (by decide)) BK264.out (by decide)) (fun _ hk => hk.1.2) (.slice Ao10 t266.length co10)) (fun _ hk => hk.2) (.slice Ao10 t266.length co10)) (fun _ hk => trivial),zG_⟩

def laws_toExprS.l0 : Nat → List (S200) → List (S123) → Int → Option ((List (S123)))
 |0,_,_,_ => none
 |k + 1,x0,x3,x4 => if x4 < (x0.length : Int) then (if 0 ≤ x4 then ((laws_toExpr.f k ((rd_T200 x0 x4).f0)).bind fun t273 => (if x4 < (x3.length : Int) then (laws_toExprS.l0 k x0 (x3.set (x4 : Int).toNat (⟨t273⟩ : S123)) (wrap64 (x4 + 1))) else (none))) else (none)) else (some x3)
def laws_toExprS.f (k : Nat) (l0 : List (S200)) : Option ((List (S123))):=if 0 ≤ (l0.length : Int) then (if ((l0.length : Int) : Int).toNat ≤ 11728124029610 then (laws_toExprS.l0 k l0 (List.replicate ((l0.length : Int) : Int).toNat z123) 0) else (none)) else (none)
theorem laws_toExprS.calls (k : Nat) (A0 : Option Addr) (c0 : Nat) (l0 : List (S200)) (r : List (S123)) (w : World) (hr0 : Kd.C k200 w A0 l0.length l0) (hc0 : l0.length ≤ c0) (h : laws_toExprS.f k l0 = some r) :
  Calls Tryz.prog 142 #[.slice A0 l0.length c0] w fun e w' => ∃ v0_ : Value,e = .returned (v0_) ∧ Kd.R k123 123 w' w.heap.size (fun _ => True) v0_ r ∧ Below w.heap.size w w':=by
 have hu200:=Tryz.underlying200
 have hu123:=Tryz.underlying123
 have HR0:=zm_ hr0
 have HC0:=zm_ hc0
 clear hr0 hc0
 have HB:=zm_ (Below.refl w.heap.size w)
 have H : (if 0 ≤ (l0.length : Int) then (if ((l0.length : Int) : Int).toNat ≤ 11728124029610 then (laws_toExprS.l0 k l0 (List.replicate ((l0.length : Int) : Int).toNat z123) 0) else (none)) else (none)) = some r:=h
 clear h
 by_cases c2 : 0 ≤ (l0.length : Int)
 rotate_left
 ·rw [if_neg c2] at H
  cases H


 rw [if_pos c2] at H
 have c2b0:=eq_true c2
 have c2b1:=decide_eq_true c2
 clear c2
 by_cases c3 : ((l0.length : Int) : Int).toNat ≤ 11728124029610
 rotate_left
 ·rw [if_neg c3] at H
  cases H
 rw [if_pos c3] at H
 have c3b0:=eq_true c3
 have c3b1:=decide_eq_true c3
 clear c3
 obtain ⟨y269,hy269⟩ : ∃ y_ : List (S123),y_ = (List.replicate ((l0.length : Int) : Int).toNat z123):=⟨_,rfl⟩
 replace H : (laws_toExprS.l0 k l0 y269 0) = some r:=by first|(rw [hy269];with_reducible exact H)|(have H2_:=(Option.bind_some _ _).symm.trans H;rw [hy269];with_reducible exact H2_)|(have H2_:=(Option.bind_some _ _).symm.trans H;with_reducible exact H2_)|with_reducible exact H|(rw [hy269];exact H)|exact H
 have Ny269:=zm_ hy269
 clear hy269
 have H':=zm_ H
 clear H
 go_enter Tryz.func142,Tryz.ntmps142
 go_wp2_with (first|((with_reducible refine gate_dst (N:=7) rfl ?_);refine Kd.R_make k123 _ 123 rfl (N:=7) rfl 74 _ _ rfl (l0.length : Int) rfl rfl Tryz.underlying74 (.agg #[(.slice none 0 0)]) 24 info123 rfl (by decide) (by omega) z123 (ok:=fun _ => True) (okp:=fun _ => True) (k123_mkM _ _ _ z123 (Kd.R_nil _ _ _ _ _)) (fun _ hk => hk) trivial (zo_) (Nat.le_trans (Nat.mul_le_mul_right _ (zo_ : (l0.length : Int).toNat ≤ 11728124029610)) (by omega)) (Below.refl _ _) (Nat.le_refl _) ?_;intro v270 w4 ho5 hb hg_ hnew_;clear hg_ hnew_;(first|rw [← Ny269.out] at ho5|(simp only [Int.reduceToNat] at ho5;rw [← Ny269.out] at ho5));have n0_:=zm_ (Kd.R_lower ho5 (below_size zB_));have n1_:=zm_ (below_step zB_ hb);clear HB;have HO271:=n0_;have HB:=n1_;clear n0_ n1_;clear hb ho5))
 go_loopg [4] k (fun kq v4 w' => ∃ (x3_1 : List (S123)) (x4_1 : Int),v4 = .int .i64 x4_1 ∧ Aside0 (laws_toExprS.l0 kq l0 x3_1 x4_1 = some r) ∧ Aside0 (kq ≤ k) ∧ Aside0 (Kd.R k123 123 w' w.heap.size (fun _ => True) v270 x3_1) ∧ Aside0 (Below w.heap.size w w'))
 case atStart => exact ⟨(y269),(0),zV_,H',⟨Nat.le_refl _⟩,⟨zO_⟩,⟨zG_⟩⟩
 case round =>
  clear H'
  obtain ⟨x3_1,x4_1,rfl,HA,HK1,HO_3,HB⟩:=hrel
  cases gk with
  |zero => exact absurd HA.out (by simp [laws_toExprS.l0])
  |succ k1 =>
   have H:=HA.out
   clear HA
   simp only [laws_toExprS.l0] at H
   by_cases c6 : x4_1 < (l0.length : Int)
   rotate_left
   ·rw [if_neg c6] at H
    have c6b0:=decide_eq_false c6
    clear c6
    obtain rfl:=zi_ H
    go_wp2
    go_ret
    exact ⟨_,by first|rfl|(simp [errW_none,errW_some] <;> rfl)|(simp [*,errW_none,errW_some] <;> rfl),by (with_reducible repeat (first|apply Kd.R_alloc|apply Kd.R_drewN|apply Kd.R_drew));exact HO_3.out,zG_⟩
   rw [if_pos c6] at H
   have c6b0:=decide_eq_true c6
   clear c6
   by_cases c7 : 0 ≤ x4_1
   rotate_left
   ·rw [if_neg c7] at H
    cases H
   rw [if_pos c7] at H
   have c7b0:=decide_eq_true c7
   clear c7
   obtain ⟨t273,A8,H⟩:=zJ_ H
   try dsimp only at H
   by_cases c9 : x4_1 < (x3_1.length : Int)
   rotate_left
   ·rw [if_neg c9] at H
    cases H
   rw [if_pos c9] at H
   have c9b0:=decide_eq_true c9
   clear c9
   obtain ⟨y276,hy276⟩ : ∃ y_ : List (S123),y_ = (x3_1.set (x4_1 : Int).toNat (⟨t273⟩ : S123)):=⟨_,rfl⟩
   replace H : (laws_toExprS.l0 k1 l0 y276 (wrap64 (x4_1 + 1))) = some r:=by first|(rw [hy276];with_reducible exact H)|(have H2_:=(Option.bind_some _ _).symm.trans H;rw [hy276];with_reducible exact H2_)|(have H2_:=(Option.bind_some _ _).symm.trans H;with_reducible exact H2_)|with_reducible exact H|(rw [hy276];exact H)|exact H
   have Ny276:=zm_ hy276
   clear hy276
   have H':=zm_ H
   clear H
   have p272 : 0 ≤ (x4_1 : Int):=zo_
   have q272 : x4_1 < (l0.length : Int):=zo_
   obtain ⟨ad272,A272_0,c272_0,e272,hx272_0,hl272_0,hi272_0⟩:=at_T200 HR0.out x4_1 p272 q272
   cases e272
   replace hx272_0:=(HB.out.cell (zb_ w _ hx272_0)).trans hx272_0
   have HR272_0:=zm_ hi272_0
   have HC272_0:=zm_ hl272_0
   clear hi272_0 hl272_0
   replace p272:=eq_true p272
   replace q272:=eq_true q272
   go_wp2_with (first|((with_reducible refine gate_callee (f:=165) rfl ?_);refine goesL_ (some 20) rfl rfl Tryz.func165 (by kernel_rfl) rfl #[.agg #[.slice A272_0 ((rd_T200 l0 x4_1).f0).length c272_0]] rfl zq_ ?_;(with_reducible refine (laws_toExpr.calls k1 _ _ ((rd_T200 l0 x4_1).f0) t273 _ ?side1 ?side2 A8.out).mono ?_);(case side1 => exact zP_);(case side2 => exact HC272_0.out);rintro e w11 ⟨v274,rfl,ho0,hb⟩;refine ⟨_,rfl,?_⟩;have n0_:=zm_ (Kd.R_elder' (by (with_reducible repeat (first|apply Kd.R_alloc|apply Kd.R_drewN|apply Kd.R_drew));exact HO_3.out) (Kd.S_base ho0) hb);have n1_:=zm_ (Kd.S_lower ho0 (below_size zB_));have n2_:=zm_ (below_step zB_ hb);clear HO_3;clear HB;have HO_3:=n0_;have HO275:=n1_;have HB:=n2_;clear n0_ n1_ n2_;(try clear hb);(try clear hb2);(try clear hk);(try clear hi);(try clear ho0);have p10 : 0 ≤ (x4_1 : Int):=zo_;have q10 : (x4_1 : Int) < ((x3_1.length : Int) : Int):=zo_;obtain ⟨go10,co10,eo10,gb10,gl10,cl10,HG10⟩:=Kd.R_form HO_3.out (by omega);(first|cases eo10|(injection eo10 with ea_ en_ ec_;(first|subst ea_|(injection ea_ with ea_;subst ea_));subst ec_;clear en_));have GB10:=zm_ gb10;have GG10:=zm_ HG10;clear gb10 gl10 HG10;obtain ⟨ce10,hcl10,hM10,hcc10,hfr10⟩:=Kd.R_elem HO_3.out z123 (x4_1 : Int) p10 q10;obtain ⟨ve10_0,rfl,ge10_0⟩:=k123_openM hM10;have hx10_0:=hcc10 0 _ rfl;have hf10_0:=hfr10 0;(try simp only [show (k123).sz = 1 from rfl,Nat.mul_one,Nat.add_zero] at hx10_0);(try simp only [show (k123).sz = 1 from rfl,Nat.mul_one,Nat.add_zero] at hf10_0);clear hcl10 hcc10 hfr10 hM10;replace p10:=eq_true p10;replace q10:=eq_true q10;have n_:=zm_ (Kd.R_mono (ok':=(fun k_ => some k_ ≠ (v274 : Value).ownBlock)) HO_3.out (fun k_ hk => hk.2));clear HO_3;have HO_3:=n_;clear n_;have HX12:=zm_ (show Kd.R k123 123 w11 w.heap.size (fun _ => True) (.slice (some ⟨go10,0,none⟩) x3_1.length co10) x3_1 from zt11_27);obtain ⟨ce12,hcl12,hM12,hcc12,hfr12⟩:=Kd.R_elem HX12.out z123 (x4_1 : Int) (zo_) zt11_5;obtain ⟨ve12_0,rfl,ge12_0⟩:=k123_openM hM12;have HP12:=Kd.R_seg HX12.out (x4_1 : Int) (zo_) zt11_5 (seg:=[v274]) (j:=0) hcl12 hcc12 (show 1 ≤ 1 from by decide) (x':=(⟨t273⟩ : S123)) (k123_mkM _ _ _ (⟨t273⟩ : S123) (Kd.R_mono (Kd.R_apart' ((Kd.S_R HO275.out)) (Kd.R_typed HO_3.out) (by decide)) (fun k_ hk => ⟨trivial,fun e_ => (hk.2) (by rw [e_];rfl)⟩))) (fun _ hk => hk);have hx12_0:=hcc12 0 _ rfl;(try simp only [show (k123).sz = 1 from rfl,Nat.mul_one,Nat.add_zero] at hx12_0);have hf12_0:=hfr12 0;(try simp only [show (k123).sz = 1 from rfl,Nat.mul_one,Nat.add_zero] at hf12_0);clear hcl12 hcc12 hfr12 hM12;(try simp only [show (k123).sz = 1 from rfl,Nat.mul_one,Nat.add_zero] at HP12))|((with_reducible refine gate_store (t:=123) (p:=21) rfl ?_);(first|have st0_:=store_own (P:=Tryz.prog) HO275.out|have st0_:=store_own (P:=Tryz.prog) (Kd.S_R HO275.out));refine store_event (t:=123) (p:=21) (v:=?vo_w13) (w1:=(w11.setCell ⟨go10,(x4_1 : Int).toNat,none⟩ (v274))) ?hg ?ho ?hn ?hr ?_;(case ho => rfl);(case hg => rfl);(case hn => rfl);(case hr => first|(go_simp;done)|(go_simp;rfl));intro w13 hw;have hg : w11.grownBy w13 (some go10):=(by rw [hw];exact HP12.2);have hp_ : Kd.R k123 123 w13 w.heap.size (fun _ => True) (.slice (some ⟨go10,0,none⟩) x3_1.length co10) y276:=(by rw [hw,Ny276.out];exact HP12.1);clear HP12;have n0_:=zm_ (hp_);have n1_:=zm_ ((by rw [hw];exact zs_ (HB.out) GB10.out : Below w.heap.size w w13));clear HO_3;clear HB;clear HO275;have HO_3:=n0_;have HB:=n1_;clear n0_ n1_;clear hg hw hp_))
   go_roundg k1
   case measure => have:=HK1.out;omega
   case rel => exact ⟨(y276),(wrap64 (x4_1 + 1)),zV_,H',⟨by have:=HK1.out;omega⟩,⟨zO_⟩,⟨zG_⟩⟩
def laws_toSym.f (k : Nat) (a0_0 : Int) (a0_1 : ByteArray) (l0_2 : List (S200)) (a0_3 : ByteArray) : Option (Int × ByteArray × (List (S123)) × ByteArray):=(laws_toExprS.f k l0_2).bind fun t280 => (some (a0_0,a0_1,t280,a0_3))
theorem laws_toSym.calls (k : Nat) (a0_0 : Int) (a0_1 : ByteArray) (A0_2 : Option Addr) (c0_2 : Nat) (l0_2 : List (S200)) (a0_3 : ByteArray) (r1 : Int) (r2 : ByteArray) (r3 : List (S123)) (r4 : ByteArray) (w : World) (hr0_2 : Kd.C k200 w A0_2 l0_2.length l0_2) (hc0_2 : l0_2.length ≤ c0_2) (h : laws_toSym.f k a0_0 a0_1 l0_2 a0_3 = some (r1,r2,r3,r4)) :
  Calls Tryz.prog 133 #[.agg #[.int .i64 a0_0,.string a0_1,.slice A0_2 l0_2.length c0_2,.string a0_3]] w fun e w' => ∃ v2_ : Value,e = .returned (.agg #[.int .i64 r1,.string r2,v2_,.string r4]) ∧ Kd.R k123 123 w' w.heap.size (fun _ => True) v2_ r3 ∧ Below w.heap.size w w':=by
 have hu170:=Tryz.underlying170
 have hu76:=Tryz.underlying76
 have HR0_2:=zm_ hr0_2
 have HC0_2:=zm_ hc0_2
 clear hr0_2 hc0_2
 have HB:=zm_ (Below.refl w.heap.size w)
 have H : ((laws_toExprS.f k l0_2).bind fun t280 => (some (a0_0,a0_1,t280,a0_3))) = some (r1,r2,r3,r4):=h
 clear h
 obtain ⟨t280,A2,H⟩:=zJ_ H
 try dsimp only at H
 simp only [Option.some.injEq,Prod.mk.injEq] at H
 obtain ⟨rfl,rfl,rfl,rfl⟩:=H
 go_enter Tryz.func133,Tryz.ntmps133
 go_wp2_with (first|((with_reducible refine gate_dst (N:=1) rfl ?_);refine box_event ?hg (N:=1) ?hd (cs:=#[.int .i64 a0_0,.string a0_1,.slice A0_2 l0_2.length c0_2,.string a0_3]) (t:=170) ?hr ?_;(case hd => rfl);(case hg => rfl);(case hr => first|(go_simp;done)|(go_simp;rfl));intro gb277 hg w3 hbox hb;have n0_:=zm_ (below_step zB_ hb);have n1_:=zm_ (hbox);have n2_:=zm_ ((by rw [hg];exact (below_size zB_) : w.heap.size ≤ gb277));have n3_:=zm_ ((by rw [hg];exact (below_size zB_) : w.heap.size ≤ gb277));clear HB;have HB:=n0_;have BK277:=n1_;have GW277:=n2_;have GE277:=n3_;clear n0_ n1_ n2_ n3_;clear hb hbox hg)|((with_reducible refine gate_dst (N:=2) rfl ?_);refine box_event ?hg (N:=2) ?hd (cs:=#[.int .i64 0,.string (⟨#[]⟩ : ByteArray),.slice none 0 0,.string (⟨#[]⟩ : ByteArray)]) (t:=76) ?hr ?_;(case hd => rfl);(case hg => rfl);(case hr => first|(go_simp;done)|(go_simp;rfl));intro gb278 hg w4 hbox hb;have n0_:=zm_ (blk_below (g:=gb277) (o:=.cells #[.int .i64 a0_0,.string a0_1,.slice A0_2 l0_2.length c0_2,.string a0_3] 170 (0,0)) zK_ hb);have n1_:=zm_ (below_step zG_ hb);have n2_:=zm_ (hbox);have n3_:=zm_ ((by rw [hg];exact (below_size zG_) : w.heap.size ≤ gb278));have n4_:=zm_ ((by rw [hg];exact (below_size zG_) : w.heap.size ≤ gb278));have n5_:=zm_ ((zt11_24 : gb277 ≠ gb278));have n6_:=zm_ ((zt11_25 : gb278 ≠ gb277));clear BK277;clear HB;have BK277:=n0_;have HB:=n1_;have BK278:=n2_;have GW278:=n3_;have GE278:=n4_;have NB277_278:=n5_;have NB278_277:=n6_;clear n0_ n1_ n2_ n3_ n4_ n5_ n6_;clear hb hbox hg)|((with_reducible refine gate_dst (N:=3) rfl ?_);refine box_event ?hg (N:=3) ?hd (cs:=#[.int .i64 0,.string (⟨#[]⟩ : ByteArray),.slice none 0 0,.string (⟨#[]⟩ : ByteArray)]) (t:=76) ?hr ?_;(case hd => rfl);(case hg => rfl);(case hr => first|(go_simp;done)|(go_simp;rfl));intro gb279 hg w5 hbox hb;have n0_:=zm_ (blk_below (g:=gb277) (o:=.cells #[.int .i64 a0_0,.string a0_1,.slice A0_2 l0_2.length c0_2,.string a0_3] 170 (0,0)) zK_ hb);have n1_:=zm_ (blk_below (g:=gb278) (o:=.cells #[.int .i64 0,.string (⟨#[]⟩ : ByteArray),.slice none 0 0,.string (⟨#[]⟩ : ByteArray)] 76 (0,0)) zK_ hb);have n2_:=zm_ (below_step zG_ hb);have n3_:=zm_ (hbox);have n4_:=zm_ ((by rw [hg];exact (below_size zG_) : w.heap.size ≤ gb279));have n5_:=zm_ ((by rw [hg];exact (below_size zG_) : w.heap.size ≤ gb279));have n6_:=zm_ ((zt11_24 : gb277 ≠ gb279));have n7_:=zm_ ((zt11_25 : gb279 ≠ gb277));have n8_:=zm_ ((by rw [hg];exact Nat.ne_of_lt (blk_lt (g:=gb278) (o:=.cells #[.int .i64 0,.string (⟨#[]⟩ : ByteArray),.slice none 0 0,.string (⟨#[]⟩ : ByteArray)] 76 (0,0)) zK_) : gb278 ≠ gb279));have n9_:=zm_ ((by rw [hg];exact Nat.ne_of_gt (blk_lt (g:=gb278) (o:=.cells #[.int .i64 0,.string (⟨#[]⟩ : ByteArray),.slice none 0 0,.string (⟨#[]⟩ : ByteArray)] 76 (0,0)) zK_) : gb279 ≠ gb278));clear BK277;clear BK278;clear HB;have BK277:=n0_;have BK278:=n1_;have HB:=n2_;have BK279:=n3_;have GW279:=n4_;have GE279:=n5_;have NB277_279:=n6_;have NB279_277:=n7_;have NB278_279:=n8_;have NB279_278:=n9_;clear n0_ n1_ n2_ n3_ n4_ n5_ n6_ n7_ n8_ n9_;clear hb hbox hg;have hnb6:=NB277_278.out;have hnc6:=NB278_277.out;have hnb7:=NB277_279.out;have hnc7:=NB279_277.out;have hcz8_0 : w5.cell? ⟨gb277,0,none⟩ = some (.int .i64 a0_0):=(zc_ BK277.out 0).trans rfl;have hcz8_1 : w5.cell? ⟨gb277,1,none⟩ = some (.string a0_1):=(zc_ BK277.out 1).trans rfl;have hcz8_2 : w5.cell? ⟨gb277,2,none⟩ = some (.slice A0_2 l0_2.length c0_2):=(zc_ BK277.out 2).trans rfl;have hcz8_3 : w5.cell? ⟨gb277,3,none⟩ = some (.string a0_3):=(zc_ BK277.out 3).trans rfl;have hfz8_0:=zf_ BK277.out 0;have hfz8_1:=zf_ BK277.out 1;have hfz8_2:=zf_ BK277.out 2;have hfz8_3:=zf_ BK277.out 3;have hnb9:=NB279_278.out;have hnc9:=NB278_279.out;have hcz10_0 : w5.cell? ⟨gb279,0,none⟩ = some (.int .i64 0):=(zc_ BK279.out 0).trans rfl;have hcz10_1 : w5.cell? ⟨gb279,1,none⟩ = some (.string (⟨#[]⟩ : ByteArray)):=(zc_ BK279.out 1).trans rfl;have hcz10_2 : w5.cell? ⟨gb279,2,none⟩ = some (.slice none 0 0):=(zc_ BK279.out 2).trans rfl;have hcz10_3 : w5.cell? ⟨gb279,3,none⟩ = some (.string (⟨#[]⟩ : ByteArray)):=(zc_ BK279.out 3).trans rfl;have hfz10_0:=zf_ BK279.out 0;have hfz10_1:=zf_ BK279.out 1;have hfz10_2:=zf_ BK279.out 2;have hfz10_3:=zf_ BK279.out 3)|((with_reducible refine gate_callee (f:=142) rfl ?_);refine goesL_ (some 12) rfl rfl Tryz.func142 (by kernel_rfl) rfl #[.slice A0_2 l0_2.length c0_2] rfl zq_ ?_;(with_reducible refine (laws_toExprS.calls k _ _ l0_2 t280 _ ?side1 ?side2 A2.out).mono ?_);(case side1 => exact Kd.C_below HR0_2.out zG_);(case side2 => exact HC0_2.out);rintro e w11 ⟨v281,rfl,ho0,hb⟩;refine ⟨_,rfl,?_⟩;have n0_:=zm_ (Kd.R_lower ho0 (below_size zG_));have n1_:=zm_ (blk_below (g:=gb277) (o:=.cells #[.int .i64 a0_0,.string a0_1,.slice A0_2 l0_2.length c0_2,.string a0_3] 170 (0,0)) (by (with_reducible repeat first|refine zl_ ?_ _|refine zr_ ?_|refine zk_ ?_ _);refine blk_far ?_ NB277_279.out _;(with_reducible repeat first|refine zl_ ?_ _|refine zr_ ?_|refine zk_ ?_ _);refine blk_far ?_ NB277_279.out _;(with_reducible repeat first|refine zl_ ?_ _|refine zr_ ?_|refine zk_ ?_ _);exact BK277.out) hb);have n2_:=zm_ (blk_below (g:=gb278) (o:=.cells #[.int .i64 0,.string (⟨#[]⟩ : ByteArray),.slice none 0 0,.string (⟨#[]⟩ : ByteArray)] 76 (0,0)) (by (with_reducible repeat first|refine zl_ ?_ _|refine zr_ ?_|refine zk_ ?_ _);refine blk_far ?_ NB278_279.out _;(with_reducible repeat first|refine zl_ ?_ _|refine zr_ ?_|refine zk_ ?_ _);refine blk_far ?_ NB278_279.out _;(with_reducible repeat first|refine zl_ ?_ _|refine zr_ ?_|refine zk_ ?_ _);exact BK278.out) hb);have n3_:=zm_ (blk_below (g:=gb279) (o:=.cells #[.int .i64 a0_0,.string a0_1,.slice none 0 0,.string (⟨#[]⟩ : ByteArray)] 76 (0,0)) (by (with_reducible repeat first|refine zl_ ?_ _|refine zr_ ?_|refine zk_ ?_ _);refine blk_put (cs:=#[.int .i64 a0_0,.string (⟨#[]⟩ : ByteArray),.slice none 0 0,.string (⟨#[]⟩ : ByteArray)]) ?_ 1 _ rfl;(with_reducible repeat first|refine zl_ ?_ _|refine zr_ ?_|refine zk_ ?_ _);refine blk_put (cs:=#[.int .i64 0,.string (⟨#[]⟩ : ByteArray),.slice none 0 0,.string (⟨#[]⟩ : ByteArray)]) ?_ 0 _ rfl;(with_reducible repeat first|refine zl_ ?_ _|refine zr_ ?_|refine zk_ ?_ _);exact BK279.out) hb);have n4_:=zm_ (below_step zG_ hb);clear BK277;clear BK278;clear BK279;clear HB;have HO282:=n0_;have BK277:=n1_;have BK278:=n2_;have BK279:=n3_;have HB:=n4_;clear n0_ n1_ n2_ n3_ n4_;(try clear hb);(try clear hb2);(try clear hk);(try clear hi);(try clear ho0);obtain ⟨Ao12,co12,eo12⟩:=Kd.R_slice HO282.out;subst eo12;have hcz13_0 : w11.cell? ⟨gb279,0,none⟩ = some (.int .i64 a0_0):=(zc_ BK279.out 0).trans rfl;have hcz13_1 : w11.cell? ⟨gb279,1,none⟩ = some (.string a0_1):=(zc_ BK279.out 1).trans rfl;have hcz13_2 : w11.cell? ⟨gb279,2,none⟩ = some (.slice none 0 0):=(zc_ BK279.out 2).trans rfl;have hcz13_3 : w11.cell? ⟨gb279,3,none⟩ = some (.string (⟨#[]⟩ : ByteArray)):=(zc_ BK279.out 3).trans rfl;have hfz13_0:=zf_ BK279.out 0;have hfz13_1:=zf_ BK279.out 1;have hfz13_2:=zf_ BK279.out 2;have hfz13_3:=zf_ BK279.out 3;have hcz14_0 : w11.cell? ⟨gb277,0,none⟩ = some (.int .i64 a0_0):=(zc_ BK277.out 0).trans rfl;have hcz14_1 : w11.cell? ⟨gb277,1,none⟩ = some (.string a0_1):=(zc_ BK277.out 1).trans rfl;have hcz14_2 : w11.cell? ⟨gb277,2,none⟩ = some (.slice A0_2 l0_2.length c0_2):=(zc_ BK277.out 2).trans rfl;have hcz14_3 : w11.cell? ⟨gb277,3,none⟩ = some (.string a0_3):=(zc_ BK277.out 3).trans rfl;have hfz14_0:=zf_ BK277.out 0;have hfz14_1:=zf_ BK277.out 1;have hfz14_2:=zf_ BK277.out 2;have hfz14_3:=zf_ BK277.out 3;have hcz15_0 : w11.cell? ⟨gb278,0,none⟩ = some (.int .i64 0):=(zc_ BK278.out 0).trans rfl;have hcz15_1 : w11.cell? ⟨gb278,1,none⟩ = some (.string (⟨#[]⟩ : ByteArray)):=(zc_ BK278.out 1).trans rfl;have hcz15_2 : w11.cell? ⟨gb278,2,none⟩ = some (.slice none 0 0):=(zc_ BK278.out 2).trans rfl;have hcz15_3 : w11.cell? ⟨gb278,3,none⟩ = some (.string (⟨#[]⟩ : ByteArray)):=(zc_ BK278.out 3).trans rfl;have hfz15_0:=zf_ BK278.out 0;have hfz15_1:=zf_ BK278.out 1;have hfz15_2:=zf_ BK278.out 2;have hfz15_3:=zf_ BK278.out 3))
 refine bodyPost_ret (results_cell_row rfl _ _ gb278 76 #[.int .i64 a0_0,.string a0_1,.slice Ao12 t280.length co12,.string a0_3] (0,0) _ rfl (by (with_reducible repeat first|refine zl_ ?_ _|refine zr_ ?_|refine zk_ ?_ _);refine blk_put (cs:=#[.int .i64 a0_0,.string a0_1,.slice Ao12 t280.length co12,.string (⟨#[]⟩ : ByteArray)]) ?_ 3 _ rfl;(with_reducible repeat first|refine zl_ ?_ _|refine zr_ ?_|refine zk_ ?_ _);refine blk_put (cs:=#[.int .i64 a0_0,.string a0_1,.slice none 0 0,.string (⟨#[]⟩ : ByteArray)]) ?_ 2 _ rfl;(with_reducible repeat first|refine zl_ ?_ _|refine zr_ ?_|refine zk_ ?_ _);refine blk_put (cs:=#[.int .i64 a0_0,.string (⟨#[]⟩ : ByteArray),.slice none 0 0,.string (⟨#[]⟩ : ByteArray)]) ?_ 1 _ rfl;(with_reducible repeat first|refine zl_ ?_ _|refine zr_ ?_|refine zk_ ?_ _);refine blk_put (cs:=#[.int .i64 0,.string (⟨#[]⟩ : ByteArray),.slice none 0 0,.string (⟨#[]⟩ : ByteArray)]) ?_ 0 _ rfl;(with_reducible repeat first|refine zl_ ?_ _|refine zr_ ?_|refine zk_ ?_ _);refine blk_far ?_ NB278_279.out _;(with_reducible repeat first|refine zl_ ?_ _|refine zr_ ?_|refine zk_ ?_ _);refine blk_far ?_ NB278_279.out _;(with_reducible repeat first|refine zl_ ?_ _|refine zr_ ?_|refine zk_ ?_ _);exact BK278.out) Tryz.underlying76 rfl (by kernel_rfl)) rfl ?_
 exact ⟨_,by first|rfl|(simp [errW_none,errW_some] <;> rfl)|(simp [*,errW_none,errW_some] <;> rfl),by (with_reducible repeat (first|apply Kd.R_alloc|apply Kd.R_drewN|apply Kd.R_drew));exact Kd.R_mono (Kd.R_far (p:=⟨gb278,3,none⟩) (Kd.R_far (p:=⟨gb278,2,none⟩) (Kd.R_far (p:=⟨gb278,1,none⟩) (Kd.R_far (p:=⟨gb278,0,none⟩) (Kd.R_far (p:=⟨gb279,3,none⟩) (Kd.R_far (p:=⟨gb279,2,none⟩) (Kd.R_types (Kd.R_types HO282.out BK279.out (by decide)) BK278.out (by decide)) (fun _ hk => hk.1.2) (.slice Ao12 t280.length co12)) (fun _ hk => hk.1.2) (.string a0_3)) (fun _ hk => hk.2) (.int .i64 a0_0)) (fun _ hk => hk.2) (.string a0_1)) (fun _ hk => hk.2) (.slice Ao12 t280.length co12)) (fun _ hk => hk.2) (.string a0_3)) (fun _ hk => trivial),zG_⟩

def laws_toSymS.l0 : Nat → List (S170) → List (S76) → Int → Option ((List (S76)))
 |0,_,_,_ => none
 |k + 1,x0,x3,x4 => if x4 < (x0.length : Int) then (if 0 ≤ x4 then ((laws_toSym.f k ((rd_T170 x0 x4).f0) ((rd_T170 x0 x4).f1) ((rd_T170 x0 x4).f2) ((rd_T170 x0 x4).f3)).bind fun bt287 => (if x4 < (x3.length : Int) then (laws_toSymS.l0 k x0 (x3.set (x4 : Int).toNat (⟨bt287.1,bt287.2.1,bt287.2.2.1,bt287.2.2.2⟩ : S76)) (wrap64 (x4 + 1))) else (none))) else (none)) else (some x3)
def laws_toSymS.f (k : Nat) (l0 : List (S170)) : Option ((List (S76))):=if 0 ≤ (l0.length : Int) then (if ((l0.length : Int) : Int).toNat ≤ 4398046511104 then (laws_toSymS.l0 k l0 (List.replicate ((l0.length : Int) : Int).toNat z76) 0) else (none)) else (none)
theorem laws_toSymS.calls (k : Nat) (A0 : Option Addr) (c0 : Nat) (l0 : List (S170)) (r : List (S76)) (w : World) (hr0 : Kd.C k170 w A0 l0.length l0) (hc0 : l0.length ≤ c0) (h : laws_toSymS.f k l0 = some r) :
  Calls Tryz.prog 119 #[.slice A0 l0.length c0] w fun e w' => ∃ v0_ : Value,e = .returned (v0_) ∧ Kd.R k76 76 w' w.heap.size (fun _ => True) v0_ r ∧ Below w.heap.size w w':=by
 have hu170:=Tryz.underlying170
 have hu76:=Tryz.underlying76
 have HR0:=zm_ hr0
 have HC0:=zm_ hc0
 clear hr0 hc0
 have HB:=zm_ (Below.refl w.heap.size w)
 have H : (if 0 ≤ (l0.length : Int) then (if ((l0.length : Int) : Int).toNat ≤ 4398046511104 then (laws_toSymS.l0 k l0 (List.replicate ((l0.length : Int) : Int).toNat z76) 0) else (none)) else (none)) = some r:=h
 clear h
 by_cases c2 : 0 ≤ (l0.length : Int)
 rotate_left
 ·rw [if_neg c2] at H
  cases H


 rw [if_pos c2] at H
 have c2b0:=eq_true c2
 have c2b1:=decide_eq_true c2
 clear c2
 by_cases c3 : ((l0.length : Int) : Int).toNat ≤ 4398046511104
 rotate_left
 ·rw [if_neg c3] at H
  cases H
 rw [if_pos c3] at H
 have c3b0:=eq_true c3
 have c3b1:=decide_eq_true c3
 clear c3
 obtain ⟨y283,hy283⟩ : ∃ y_ : List (S76),y_ = (List.replicate ((l0.length : Int) : Int).toNat z76):=⟨_,rfl⟩
 replace H : (laws_toSymS.l0 k l0 y283 0) = some r:=by first|(rw [hy283];with_reducible exact H)|(have H2_:=(Option.bind_some _ _).symm.trans H;rw [hy283];with_reducible exact H2_)|(have H2_:=(Option.bind_some _ _).symm.trans H;with_reducible exact H2_)|with_reducible exact H|(rw [hy283];exact H)|exact H
 have Ny283:=zm_ hy283
 clear hy283
 have H':=zm_ H
 clear H
 go_enter Tryz.func119,Tryz.ntmps119
 go_wp2_with (first|((with_reducible refine gate_dst (N:=7) rfl ?_);refine Kd.R_make k76 _ 76 rfl (N:=7) rfl 55 _ _ rfl (l0.length : Int) rfl rfl Tryz.underlying55 (.agg #[(.int .i64 0),(.string ⟨#[]⟩),(.slice none 0 0),(.string ⟨#[]⟩)]) 64 info76 rfl (by decide) (by omega) z76 (ok:=fun _ => True) (okp:=fun _ => True) (k76_mkM _ _ _ z76 (Kd.R_nil _ _ _ _ _)) (fun _ hk => hk) trivial (zo_) (Nat.le_trans (Nat.mul_le_mul_right _ (zo_ : (l0.length : Int).toNat ≤ 4398046511104)) (by omega)) (Below.refl _ _) (Nat.le_refl _) ?_;intro v284 w4 ho5 hb hg_ hnew_;clear hg_ hnew_;(first|rw [← Ny283.out] at ho5|(simp only [Int.reduceToNat] at ho5;rw [← Ny283.out] at ho5));have n0_:=zm_ (Kd.R_lower ho5 (below_size zB_));have n1_:=zm_ (below_step zB_ hb);clear HB;have HO285:=n0_;have HB:=n1_;clear n0_ n1_;clear hb ho5))
 go_loopg [4] k (fun kq v4 w' => ∃ (x3_1 : List (S76)) (x4_1 : Int),v4 = .int .i64 x4_1 ∧ Aside0 (laws_toSymS.l0 kq l0 x3_1 x4_1 = some r) ∧ Aside0 (kq ≤ k) ∧ Aside0 (Kd.R k76 76 w' w.heap.size (fun _ => True) v284 x3_1) ∧ Aside0 (Below w.heap.size w w'))
 case atStart => exact ⟨(y283),(0),zV_,H',⟨Nat.le_refl _⟩,⟨zO_⟩,⟨zG_⟩⟩
 case round =>
  clear H'
  obtain ⟨x3_1,x4_1,rfl,HA,HK1,HO_3,HB⟩:=hrel
  cases gk with
  |zero => exact absurd HA.out (by simp [laws_toSymS.l0])
  |succ k1 =>
   have H:=HA.out
   clear HA
   simp only [laws_toSymS.l0] at H
   by_cases c6 : x4_1 < (l0.length : Int)
   rotate_left
   ·rw [if_neg c6] at H
    have c6b0:=decide_eq_false c6
    clear c6
    obtain rfl:=zi_ H
    go_wp2
    go_ret
    exact ⟨_,by first|rfl|(simp [errW_none,errW_some] <;> rfl)|(simp [*,errW_none,errW_some] <;> rfl),by (with_reducible repeat (first|apply Kd.R_alloc|apply Kd.R_drewN|apply Kd.R_drew));exact HO_3.out,zG_⟩
   rw [if_pos c6] at H
   have c6b0:=decide_eq_true c6
   clear c6
   by_cases c7 : 0 ≤ x4_1
   rotate_left
   ·rw [if_neg c7] at H
    cases H
   rw [if_pos c7] at H
   have c7b0:=decide_eq_true c7
   clear c7
   obtain ⟨⟨t287,t288,t289,t292⟩,A8,H⟩:=zJ_ H
   try dsimp only at H
   by_cases c9 : x4_1 < (x3_1.length : Int)
   rotate_left
   ·rw [if_neg c9] at H
    cases H
   rw [if_pos c9] at H
   have c9b0:=decide_eq_true c9
   clear c9
   obtain ⟨y293,hy293⟩ : ∃ y_ : List (S76),y_ = (x3_1.set (x4_1 : Int).toNat (⟨t287,t288,t289,t292⟩ : S76)):=⟨_,rfl⟩
   replace H : (laws_toSymS.l0 k1 l0 y293 (wrap64 (x4_1 + 1))) = some r:=by first|(rw [hy293];with_reducible exact H)|(have H2_:=(Option.bind_some _ _).symm.trans H;rw [hy293];with_reducible exact H2_)|(have H2_:=(Option.bind_some _ _).symm.trans H;with_reducible exact H2_)|with_reducible exact H|(rw [hy293];exact H)|exact H
   have Ny293:=zm_ hy293
   clear hy293
   have H':=zm_ H
   clear H
   have p286 : 0 ≤ (x4_1 : Int):=zo_
   have q286 : x4_1 < (l0.length : Int):=zo_
   obtain ⟨ad286,A286_2,c286_2,e286,hx286_0,hx286_1,hx286_2,hx286_3,hl286_2,hi286_2⟩:=at_T170 HR0.out x4_1 p286 q286
   cases e286
   replace hx286_0:=(HB.out.cell (zb_ w _ hx286_0)).trans hx286_0
   replace hx286_1:=(HB.out.cell (zb_ w _ hx286_1)).trans hx286_1
   replace hx286_2:=(HB.out.cell (zb_ w _ hx286_2)).trans hx286_2
   replace hx286_3:=(HB.out.cell (zb_ w _ hx286_3)).trans hx286_3
   have HR286_2:=zm_ hi286_2
   have HC286_2:=zm_ hl286_2
   clear hi286_2 hl286_2
   replace p286:=eq_true p286
   replace q286:=eq_true q286
   go_wp2_with (first|((with_reducible refine gate_callee (f:=133) rfl ?_);refine goesL_ (some 20) rfl rfl Tryz.func133 (by kernel_rfl) rfl #[.agg #[.int .i64 ((rd_T170 l0 x4_1).f0),.string ((rd_T170 l0 x4_1).f1),.slice A286_2 ((rd_T170 l0 x4_1).f2).length c286_2,.string ((rd_T170 l0 x4_1).f3)]] rfl zq_ ?_;(with_reducible refine (laws_toSym.calls k1 ((rd_T170 l0 x4_1).f0) ((rd_T170 l0 x4_1).f1) _ _ ((rd_T170 l0 x4_1).f2) ((rd_T170 l0 x4_1).f3) t287 t288 t289 t292 _ ?side1 ?side2 A8.out).mono ?_);(case side1 => exact zP_);(case side2 => exact HC286_2.out);rintro e w11 ⟨v290,rfl,ho0,hb⟩;refine ⟨_,rfl,?_⟩;have n0_:=zm_ (Kd.R_elder' (by (with_reducible repeat (first|apply Kd.R_alloc|apply Kd.R_drewN|apply Kd.R_drew));exact HO_3.out) (Kd.R_base ho0) hb);have n1_:=zm_ (Kd.R_lower ho0 (below_size zB_));have n2_:=zm_ (below_step zB_ hb);clear HO_3;clear HB;have HO_3:=n0_;have HO291:=n1_;have HB:=n2_;clear n0_ n1_ n2_;(try clear hb);(try clear hb2);(try clear hk);(try clear hi);(try clear ho0);have p10 : 0 ≤ (x4_1 : Int):=zo_;have q10 : (x4_1 : Int) < ((x3_1.length : Int) : Int):=zo_;obtain ⟨go10,co10,eo10,gb10,gl10,cl10,HG10⟩:=Kd.R_form HO_3.out (by omega);(first|cases eo10|(injection eo10 with ea_ en_ ec_;(first|subst ea_|(injection ea_ with ea_;subst ea_));subst ec_;clear en_));have GB10:=zm_ gb10;have GG10:=zm_ HG10;clear gb10 gl10 HG10;obtain ⟨ce10,hcl10,hM10,hcc10,hfr10⟩:=Kd.R_elem HO_3.out z76 (x4_1 : Int) p10 q10;obtain ⟨ve10_2,rfl,ge10_2⟩:=k76_openM hM10;have hx10_0 : w11.cell? ⟨go10,(x4_1 : Int).toNat * 4,none⟩ = some (.int .i64 ((rd_T76 x3_1 x4_1).f0)):=hcc10 0 _ rfl;have hx10_1 : w11.cell? ⟨go10,(x4_1 : Int).toNat * 4 + 1,none⟩ = some (.string ((rd_T76 x3_1 x4_1).f1)):=hcc10 1 _ rfl;have hx10_2 : w11.cell? ⟨go10,(x4_1 : Int).toNat * 4 + 2,none⟩ = some (ve10_2):=hcc10 2 _ rfl;have hx10_3 : w11.cell? ⟨go10,(x4_1 : Int).toNat * 4 + 3,none⟩ = some (.string ((rd_T76 x3_1 x4_1).f3)):=hcc10 3 _ rfl;have hf10_0 : w11.frozen? ⟨go10,(x4_1 : Int).toNat * 4,none⟩ = false:=hfr10 0;have hf10_1 : w11.frozen? ⟨go10,(x4_1 : Int).toNat * 4 + 1,none⟩ = false:=hfr10 1;have hf10_2 : w11.frozen? ⟨go10,(x4_1 : Int).toNat * 4 + 2,none⟩ = false:=hfr10 2;have hf10_3 : w11.frozen? ⟨go10,(x4_1 : Int).toNat * 4 + 3,none⟩ = false:=hfr10 3;clear hcl10 hcc10 hfr10 hM10;replace p10:=eq_true p10;replace q10:=eq_true q10;have n_:=zm_ (Kd.R_mono (ok':=(fun k_ => some k_ ≠ (v290 : Value).ownBlock)) HO_3.out (fun k_ hk => hk.2));clear HO_3;have HO_3:=n_;clear n_;have HX12:=zm_ (show Kd.R k76 76 w11 w.heap.size (fun _ => True) (.slice (some ⟨go10,0,none⟩) x3_1.length co10) x3_1 from zt11_27);obtain ⟨ce12,hcl12,hM12,hcc12,hfr12⟩:=Kd.R_elem HX12.out z76 (x4_1 : Int) (zo_) zt11_5;obtain ⟨ve12_2,rfl,ge12_2⟩:=k76_openM hM12;have HP12:=Kd.R_seg HX12.out (x4_1 : Int) (zo_) zt11_5 (seg:=[.int .i64 t287,.string t288,v290,.string t292]) (j:=0) hcl12 hcc12 (show 4 ≤ 4 from by decide) (x':=(⟨t287,t288,t289,t292⟩ : S76)) (k76_mkM _ _ _ (⟨t287,t288,t289,t292⟩ : S76) (Kd.R_mono (Kd.R_apart' (HO291.out) (Kd.R_typed HO_3.out) (by decide)) (fun k_ hk => ⟨trivial,fun e_ => (hk.2) (by rw [e_];rfl)⟩))) (fun _ hk => hk);have hx12_0:=hcc12 0 _ rfl;(try simp only [show (k76).sz = 4 from rfl,Nat.mul_one,Nat.add_zero] at hx12_0);have hf12_0:=hfr12 0;(try simp only [show (k76).sz = 4 from rfl,Nat.mul_one,Nat.add_zero] at hf12_0);have hx12_1:=hcc12 1 _ rfl;(try simp only [show (k76).sz = 4 from rfl,Nat.mul_one,Nat.add_zero] at hx12_1);have hf12_1:=hfr12 1;(try simp only [show (k76).sz = 4 from rfl,Nat.mul_one,Nat.add_zero] at hf12_1);have hx12_2:=hcc12 2 _ rfl;(try simp only [show (k76).sz = 4 from rfl,Nat.mul_one,Nat.add_zero] at hx12_2);have hf12_2:=hfr12 2;(try simp only [show (k76).sz = 4 from rfl,Nat.mul_one,Nat.add_zero] at hf12_2);have hx12_3:=hcc12 3 _ rfl;(try simp only [show (k76).sz = 4 from rfl,Nat.mul_one,Nat.add_zero] at hx12_3);have hf12_3:=hfr12 3;(try simp only [show (k76).sz = 4 from rfl,Nat.mul_one,Nat.add_zero] at hf12_3);clear hcl12 hcc12 hfr12 hM12)|((with_reducible refine gate_store (t:=76) (p:=21) rfl ?_);(first|have st2_:=store_own (P:=Tryz.prog) HO291.out|have st2_:=store_own (P:=Tryz.prog) (Kd.S_R HO291.out));refine store_event (t:=76) (p:=21) (v:=?vo_w13) (w1:=((((w11.setCell ⟨go10,(x4_1 : Int).toNat * 4,none⟩ (.int .i64 t287)).setCell ⟨go10,(x4_1 : Int).toNat * 4 + 1,none⟩ (.string t288)).setCell ⟨go10,(x4_1 : Int).toNat * 4 + 2,none⟩ (v290)).setCell ⟨go10,(x4_1 : Int).toNat * 4 + 3,none⟩ (.string t292))) ?hg ?ho ?hn ?hr ?_;(case ho => rfl);(case hg => rfl);(case hn => rfl);(case hr => first|(go_simp;done)|(go_simp;rfl));intro w13 hw;have hg : w11.grownBy w13 (some go10):=(by rw [hw];exact HP12.2);have hp_ : Kd.R k76 76 w13 w.heap.size (fun _ => True) (.slice (some ⟨go10,0,none⟩) x3_1.length co10) y293:=(by rw [hw,Ny293.out];exact HP12.1);clear HP12;have n0_:=zm_ (hp_);have n1_:=zm_ ((by rw [hw];exact zs_ (zs_ (zs_ (zs_ (HB.out) GB10.out) GB10.out) GB10.out) GB10.out : Below w.heap.size w w13));clear HO_3;clear HB;clear HO291;have HO_3:=n0_;have HB:=n1_;clear n0_ n1_;clear hg hw hp_))
   go_roundg k1
   case measure => have:=HK1.out;omega
   case rel => exact ⟨(y293),(wrap64 (x4_1 + 1)),zV_,H',⟨by have:=HK1.out;omega⟩,⟨zO_⟩,⟨zG_⟩⟩
def laws_toAlt.f (k : Nat) (l0_0 : List (S170)) : Option ((List (S76))):=(laws_toSymS.f k l0_0).bind fun t297 => (some t297)
theorem laws_toAlt.calls (k : Nat) (A0_0 : Option Addr) (c0_0 : Nat) (l0_0 : List (S170)) (r : List (S76)) (w : World) (hr0_0 : Kd.C k170 w A0_0 l0_0.length l0_0) (hc0_0 : l0_0.length ≤ c0_0) (h : laws_toAlt.f k l0_0 = some r) :
  Calls Tryz.prog 95 #[.agg #[.slice A0_0 l0_0.length c0_0]] w fun e w' => ∃ v0_ : Value,e = .returned (.agg #[v0_]) ∧ Kd.R k76 76 w' w.heap.size (fun _ => True) v0_ r ∧ Below w.heap.size w w':=by
 have hu131:=Tryz.underlying131
 have hu57:=Tryz.underlying57
 have HR0_0:=zm_ hr0_0
 have HC0_0:=zm_ hc0_0
 clear hr0_0 hc0_0
 have HB:=zm_ (Below.refl w.heap.size w)
 have H : ((laws_toSymS.f k l0_0).bind fun t297 => (some t297)) = some r:=h
 clear h
 obtain ⟨t297,A2,H⟩:=zJ_ H
 try dsimp only at H
 obtain rfl:=zi_ H
 go_enter Tryz.func95,Tryz.ntmps95
 go_wp2_with (first|((with_reducible refine gate_dst (N:=1) rfl ?_);refine box_event ?hg (N:=1) ?hd (cs:=#[.slice A0_0 l0_0.length c0_0]) (t:=131) ?hr ?_;(case hd => rfl);(case hg => rfl);(case hr => first|(go_simp;done)|(go_simp;rfl));intro gb294 hg w3 hbox hb;have n0_:=zm_ (below_step zB_ hb);have n1_:=zm_ (hbox);have n2_:=zm_ ((by rw [hg];exact (below_size zB_) : w.heap.size ≤ gb294));have n3_:=zm_ ((by rw [hg];exact (below_size zB_) : w.heap.size ≤ gb294));clear HB;have HB:=n0_;have BK294:=n1_;have GW294:=n2_;have GE294:=n3_;clear n0_ n1_ n2_ n3_;clear hb hbox hg)|((with_reducible refine gate_dst (N:=2) rfl ?_);refine box_event ?hg (N:=2) ?hd (cs:=#[.slice none 0 0]) (t:=57) ?hr ?_;(case hd => rfl);(case hg => rfl);(case hr => first|(go_simp;done)|(go_simp;rfl));intro gb295 hg w4 hbox hb;have n0_:=zm_ (blk_below (g:=gb294) (o:=.cells #[.slice A0_0 l0_0.length c0_0] 131 (0,0)) zK_ hb);have n1_:=zm_ (below_step zG_ hb);have n2_:=zm_ (hbox);have n3_:=zm_ ((by rw [hg];exact (below_size zG_) : w.heap.size ≤ gb295));have n4_:=zm_ ((by rw [hg];exact (below_size zG_) : w.heap.size ≤ gb295));have n5_:=zm_ ((by rw [hg];exact Nat.ne_of_lt (blk_lt (g:=gb294) (o:=.cells #[.slice A0_0 l0_0.length c0_0] 131 (0,0)) zK_) : gb294 ≠ gb295));have n6_:=zm_ ((by rw [hg];exact Nat.ne_of_gt (blk_lt (g:=gb294) (o:=.cells #[.slice A0_0 l0_0.length c0_0] 131 (0,0)) zK_) : gb295 ≠ gb294));clear BK294;clear HB;have BK294:=n0_;have HB:=n1_;have BK295:=n2_;have GW295:=n3_;have GE295:=n4_;have NB294_295:=n5_;have NB295_294:=n6_;clear n0_ n1_ n2_ n3_ n4_ n5_ n6_;clear hb hbox hg)|((with_reducible refine gate_dst (N:=3) rfl ?_);refine box_event ?hg (N:=3) ?hd (cs:=#[.slice none 0 0]) (t:=57) ?hr ?_;(case hd => rfl);(case hg => rfl);(case hr => first|(go_simp;done)|(go_simp;rfl));intro gb296 hg w5 hbox hb;have n0_:=zm_ (blk_below (g:=gb294) (o:=.cells #[.slice A0_0 l0_0.length c0_0] 131 (0,0)) zK_ hb);have n1_:=zm_ (blk_below (g:=gb295) (o:=.cells #[.slice none 0 0] 57 (0,0)) zK_ hb);have n2_:=zm_ (below_step zG_ hb);have n3_:=zm_ (hbox);have n4_:=zm_ ((by rw [hg];exact (below_size zG_) : w.heap.size ≤ gb296));have n5_:=zm_ ((by rw [hg];exact (below_size zG_) : w.heap.size ≤ gb296));have n6_:=zm_ ((by rw [hg];exact Nat.ne_of_lt (blk_lt (g:=gb294) (o:=.cells #[.slice A0_0 l0_0.length c0_0] 131 (0,0)) zK_) : gb294 ≠ gb296));have n7_:=zm_ ((by rw [hg];exact Nat.ne_of_gt (blk_lt (g:=gb294) (o:=.cells #[.slice A0_0 l0_0.length c0_0] 131 (0,0)) zK_) : gb296 ≠ gb294));have n8_:=zm_ ((by rw [hg];exact Nat.ne_of_lt (blk_lt (g:=gb295) (o:=.cells #[.slice none 0 0] 57 (0,0)) zK_) : gb295 ≠ gb296));have n9_:=zm_ ((by rw [hg];exact Nat.ne_of_gt (blk_lt (g:=gb295) (o:=.cells #[.slice none 0 0] 57 (0,0)) zK_) : gb296 ≠ gb295));clear BK294;clear BK295;clear HB;have BK294:=n0_;have BK295:=n1_;have HB:=n2_;have BK296:=n3_;have GW296:=n4_;have GE296:=n5_;have NB294_296:=n6_;have NB296_294:=n7_;have NB295_296:=n8_;have NB296_295:=n9_;clear n0_ n1_ n2_ n3_ n4_ n5_ n6_ n7_ n8_ n9_;clear hb hbox hg;have hnb6:=NB294_295.out;have hnc6:=NB295_294.out;have hnb7:=NB294_296.out;have hnc7:=NB296_294.out;have hcz8_0 : w5.cell? ⟨gb294,0,none⟩ = some (.slice A0_0 l0_0.length c0_0):=(zc_ BK294.out 0).trans rfl;have hfz8_0:=zf_ BK294.out 0)|((with_reducible refine gate_callee (f:=119) rfl ?_);refine goesL_ (some 6) rfl rfl Tryz.func119 (by kernel_rfl) rfl #[.slice A0_0 l0_0.length c0_0] rfl zq_ ?_;(with_reducible refine (laws_toSymS.calls k _ _ l0_0 t297 _ ?side1 ?side2 A2.out).mono ?_);(case side1 => exact zP_);(case side2 => exact HC0_0.out);rintro e w9 ⟨v298,rfl,ho0,hb⟩;refine ⟨_,rfl,?_⟩;have n0_:=zm_ (Kd.R_lower ho0 (below_size zG_));have n1_:=zm_ (blk_below (g:=gb294) (o:=.cells #[.slice A0_0 l0_0.length c0_0] 131 (0,0)) zK_ hb);have n2_:=zm_ (blk_below (g:=gb295) (o:=.cells #[.slice none 0 0] 57 (0,0)) zK_ hb);have n3_:=zm_ (blk_below (g:=gb296) (o:=.cells #[.slice none 0 0] 57 (0,0)) zK_ hb);have n4_:=zm_ (below_step zG_ hb);clear BK294;clear BK295;clear BK296;clear HB;have HO299:=n0_;have BK294:=n1_;have BK295:=n2_;have BK296:=n3_;have HB:=n4_;clear n0_ n1_ n2_ n3_ n4_;(try clear hb);(try clear hb2);(try clear hk);(try clear hi);(try clear ho0);obtain ⟨Ao10,co10,eo10⟩:=Kd.R_slice HO299.out;subst eo10;have hnb11:=NB296_295.out;have hnc11:=NB295_296.out;have hcz12_0 : w9.cell? ⟨gb296,0,none⟩ = some (.slice none 0 0):=(zc_ BK296.out 0).trans rfl;have hfz12_0:=zf_ BK296.out 0;have hcz13_0 : w9.cell? ⟨gb295,0,none⟩ = some (.slice none 0 0):=(zc_ BK295.out 0).trans rfl;have hfz13_0:=zf_ BK295.out 0))
 refine bodyPost_ret (results_cell_row rfl _ _ gb295 57 #[.slice Ao10 t297.length co10] (0,0) _ rfl (by (with_reducible repeat first|refine zl_ ?_ _|refine zr_ ?_|refine zk_ ?_ _);refine blk_put (cs:=#[.slice none 0 0]) ?_ 0 _ rfl;(with_reducible repeat first|refine zl_ ?_ _|refine zr_ ?_|refine zk_ ?_ _);refine blk_far ?_ NB295_296.out _;(with_reducible repeat first|refine zl_ ?_ _|refine zr_ ?_|refine zk_ ?_ _);exact BK295.out) Tryz.underlying57 rfl (by kernel_rfl)) rfl ?_
 exact ⟨_,by first|rfl|(simp [errW_none,errW_some] <;> rfl)|(simp [*,errW_none,errW_some] <;> rfl),by (with_reducible repeat (first|apply Kd.R_alloc|apply Kd.R_drewN|apply Kd.R_drew));exact Kd.R_mono (Kd.R_far (p:=⟨gb295,0,none⟩) (Kd.R_far (p:=⟨gb296,0,none⟩) (Kd.R_types (Kd.R_types HO299.out BK296.out (by decide)) BK295.out (by decide)) (fun _ hk => hk.1.2) (.slice Ao10 t297.length co10)) (fun _ hk => hk.2) (.slice Ao10 t297.length co10)) (fun _ hk => trivial),zG_⟩

end Go.Proofs.YtkbgmojomgelbaaGreat.MFnExactGrammarOk
