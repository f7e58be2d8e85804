import Derived.Test.YtkbgmojomgelbaaMFnExactTreeTextx0
import Derived.Test.YtkbgmojomgelbaaMFnExactTreeTextx5
namespace Go.Proofs.Ytkbgmojomgelbaa.MFnExactTreeText
open Go.RowKit Go.Proofs.YtkbgmojomgelbaaW.PrintWords Go.Proofs.YtkbgmojomgelbaaW.PrintLast Go.Proofs.YtkbgmojomgelbaaW.PrintMore
attribute [local go_sem] max2_int min2_int max_two min_two max_three min_three max_four min_four
set_option linter.unusedVariables false
set_option linter.unusedSimpArgs false

mutual
def impl_TreeText.j0 : Nat → Bool → List (S51) → List (S47) → Option (ByteArray)
 |0,_,_,_ => none
 |k + 1,x20,x287000,x288000 => if x20 = true then (some (⟨#[]⟩ : ByteArray)) else (impl_TreeText.l0 k (([] : List ByteArray)) x288000 (x288000.length : Int) 0 x287000)
def impl_TreeText.l0 : Nat → List ByteArray → List (S47) → Int → Int → List (S51) → Option (ByteArray)
 |0,_,_,_,_,_ => none
 |k + 1,x5,x23,x24,x25,x287000 => if x25 < x24 then (if 0 ≤ x25 then (if x25 < (x23.length : Int) then ((impl_within.f ((rd_T47 x23 x25).f0) 0 (wrap64 ((x287000.length : Int) - 1))).bind fun t295 => (if t295 = true then (if 0 ≤ ((rd_T47 x23 x25).f0) then (if ((rd_T47 x23 x25).f0) < (x287000.length : Int) then (impl_TreeText.l1 k x5 (([] : List ByteArray)) (wrap64 ((wrap64 ((((rd_T51 x287000 ((rd_T47 x23 x25).f0)).f0).size : Int) + 2)) + (mx (wrap64 ((((rd_T47 x23 x25).f5).length : Int) - 1)) 0))) x23 x24 x25 ((rd_T47 x23 x25).f5) (((rd_T47 x23 x25).f5).length : Int) 0 x287000 ((rd_T47 x23 x25).f0) ((rd_T47 x23 x25).f1) ((rd_T47 x23 x25).f2) ((rd_T47 x23 x25).f3) ((rd_T47 x23 x25).f4) ((rd_T47 x23 x25).f5)) else (none)) else (none)) else (some (⟨#[]⟩ : ByteArray)))) else (none)) else (none)) else (if 0 ≤ (wrap64 ((x5.length : Int) - 1)) then (if (wrap64 ((x5.length : Int) - 1)) < (x5.length : Int) then (some (rdOf ByteArray.empty x5 (wrap64 ((x5.length : Int) - 1)))) else (none)) else (none))
def impl_TreeText.l1 : Nat → List ByteArray → List ByteArray → Int → List (S47) → Int → Int → List Int → Int → Int → List (S51) → Int → Int → List Int → Int → Int → List Int → Option (ByteArray)
 |0,_,_,_,_,_,_,_,_,_,_,_,_,_,_,_,_ => none
 |k + 1,x5,x8,x9,x23,x24,x25,x54,x55,x56,x287000,x295000,x295001,x295002,x295003,x295004,x295005 => if x56 < x55 then (if 0 ≤ x56 then (if x56 < (x54.length : Int) then (if 0 ≤ (rd x54 x56) then (if (rd x54 x56) < (x5.length : Int) then (if (wrap64 (x9 + ((rdOf ByteArray.empty x5 (rd x54 x56)).size : Int))) > 2000 then (some (⟨#[]⟩ : ByteArray)) else (if x8.length < 8796093022208 then (impl_TreeText.l1 k x5 (x8 ++ [rdOf ByteArray.empty x5 (rd x54 x56)]) (wrap64 (x9 + ((rdOf ByteArray.empty x5 (rd x54 x56)).size : Int))) x23 x24 x25 x54 x55 (wrap64 (x56 + 1)) x287000 x295000 x295001 x295002 x295003 x295004 x295005) else (none))) else (none)) else (none)) else (none)) else (none)) else (if x9 > 2000 then (some (⟨#[]⟩ : ByteArray)) else (if 0 ≤ x295000 then (if x295000 < (x287000.length : Int) then (if ((rd_T51 x287000 x295000).f0).size + 1 ≤ 9223372036854775807 then ((strings_Join.f x8 (⟨#[32]⟩ : ByteArray)).bind fun bt307 => (if (((rd_T51 x287000 x295000).f0) ++ (⟨#[40]⟩ : ByteArray)).size + bt307.1.size ≤ 9223372036854775807 then (if ((((rd_T51 x287000 x295000).f0) ++ (⟨#[40]⟩ : ByteArray)) ++ bt307.1).size + 1 ≤ 9223372036854775807 then (if x5.length < 8796093022208 then (impl_TreeText.l0 k (x5 ++ [((((rd_T51 x287000 x295000).f0) ++ (⟨#[40]⟩ : ByteArray)) ++ bt307.1) ++ (⟨#[41]⟩ : ByteArray)]) x23 x24 (wrap64 (x25 + 1)) x287000) else (none)) else (none)) else (none))) else (none)) else (none)) else (none)))
end
def impl_TreeText.f (k : Nat) (l0_0 : List (S51)) (l1_0 : List (S47)) : Option (ByteArray):=if (l1_0.length : Int) = 0 then (impl_TreeText.j0 k true l0_0 l1_0) else ((impl_kidsRight.f k l1_0).bind fun t288 => (impl_TreeText.j0 k (!t288) l0_0 l1_0))
theorem impl_TreeText.mono_l : ∀ k,(∀ y0 y1 y2,LeO (impl_TreeText.j0 k y0 y1 y2) (impl_TreeText.j0 (k + 1) y0 y1 y2)) ∧ (∀ y0 y1 y2 y3 y4,LeO (impl_TreeText.l0 k y0 y1 y2 y3 y4) (impl_TreeText.l0 (k + 1) y0 y1 y2 y3 y4)) ∧ (∀ y0 y1 y2 y3 y4 y5 y6 y7 y8 y9 y10 y11 y12 y13 y14 y15,LeO (impl_TreeText.l1 k y0 y1 y2 y3 y4 y5 y6 y7 y8 y9 y10 y11 y12 y13 y14 y15) (impl_TreeText.l1 (k + 1) y0 y1 y2 y3 y4 y5 y6 y7 y8 y9 y10 y11 y12 y13 y14 y15))
 |0 => ⟨fun _ _ _ r h => by simp [impl_TreeText.j0] at h,fun _ _ _ _ _ r h => by simp [impl_TreeText.l0] at h,fun _ _ _ _ _ _ _ _ _ _ _ _ _ _ _ _ r h => by simp [impl_TreeText.l1] at h⟩
 |k + 1 => by
  obtain ⟨ih0,ih1,ih2⟩:=impl_TreeText.mono_l k
  refine ⟨?_,?_,?_⟩
  ·intro y0 y1 y2
   unfold impl_TreeText.j0
   repeat' first
   |(with_reducible exact ih0 _ _ _)
   |(with_reducible exact ih1 _ _ _ _ _)
   |(with_reducible exact ih2 _ _ _ _ _ _ _ _ _ _ _ _ _ _ _ _)
   |(with_reducible exact impl_kidsRight.mono _ _)
   |(with_reducible exact LeO.refl _)
   |(with_reducible exact LeO.none _)
   |(with_reducible refine LeO.ite ?_ ?_)
   |(with_reducible refine LeO.bind ?_ (fun _ => ?_))
  ·intro y0 y1 y2 y3 y4
   unfold impl_TreeText.l0
   repeat' first
   |(with_reducible exact ih0 _ _ _)
   |(with_reducible exact ih1 _ _ _ _ _)
   |(with_reducible exact ih2 _ _ _ _ _ _ _ _ _ _ _ _ _ _ _ _)
   |(with_reducible exact impl_kidsRight.mono _ _)
   |(with_reducible exact LeO.refl _)
   |(with_reducible exact LeO.none _)
   |(with_reducible refine LeO.ite ?_ ?_)
   |(with_reducible refine LeO.bind ?_ (fun _ => ?_))
  ·intro y0 y1 y2 y3 y4 y5 y6 y7 y8 y9 y10 y11 y12 y13 y14 y15
   unfold impl_TreeText.l1
   repeat' first
   |(with_reducible exact ih0 _ _ _)
   |(with_reducible exact ih1 _ _ _ _ _)
   |(with_reducible exact ih2 _ _ _ _ _ _ _ _ _ _ _ _ _ _ _ _)
   |(with_reducible exact impl_kidsRight.mono _ _)
   |(with_reducible exact LeO.refl _)
   |(with_reducible exact LeO.none _)
   |(with_reducible refine LeO.ite ?_ ?_)
   |(with_reducible refine LeO.bind ?_ (fun _ => ?_))
theorem impl_TreeText.mono : ∀ a0 a1 k,LeO (impl_TreeText.f k a0 a1) (impl_TreeText.f (k + 1) a0 a1):=by
 intro a0 a1 k
 obtain ⟨ih0,ih1,ih2⟩:=impl_TreeText.mono_l k
 unfold impl_TreeText.f
 repeat' first
   |(with_reducible exact ih0 _ _ _)
   |(with_reducible exact ih1 _ _ _ _ _)
   |(with_reducible exact ih2 _ _ _ _ _ _ _ _ _ _ _ _ _ _ _ _)
   |(with_reducible exact impl_kidsRight.mono _ _)
   |(with_reducible exact LeO.refl _)
   |(with_reducible exact LeO.none _)
   |(with_reducible refine LeO.ite ?_ ?_)
   |(with_reducible refine LeO.bind ?_ (fun _ => ?_))
def impl_TreeText.T10 : Bool × List (List Nat × List Nat):=(true,[([],[]),([0],[0]),([],[]),([2],[2]),([1,3],[1,3]),([4],[4]),([5],[5]),([6],[6]),([7],[7]),([],[]),([9],[9]),([10],[10]),([11],[11]),([12],[12]),([8,13],[8,13]),([14,0,1,2,3,4,5,6,7,8,9,10,11,12,13,14],[14])])
def impl_TreeText.B10 : List Nat:=[0,1,0,4,15,31,63,127,255,0,512,1536,3584,7680,16383,32767]
theorem impl_TreeText.tab10 : rtab .any (opsOf Try.f9 10) = impl_TreeText.T10:=by kernel_rfl
theorem impl_TreeText.bits10 : waitsOk impl_TreeText.T10.2 impl_TreeText.B10 = true:=by kernel_rfl
def impl_TreeText.T21 : Bool × List (List Nat × List Nat):=(true,[([],[]),([],[]),([1],[1]),([],[]),([3],[3]),([2,4],[2,4]),([5],[5]),([6],[6]),([7],[7]),([],[]),([9],[9]),([8,10],[8,10]),([11],[11]),([12],[12]),([0,13,10],[0,13]),([14,14,0,1,2,3,4,5,6,7,8,9,10,11,12,13,14],[0,14])])
def impl_TreeText.B21 : List Nat:=[0,0,2,0,8,30,62,126,254,0,512,2046,4094,8190,16383,32767]
theorem impl_TreeText.tab21 : rtab .any (opsOf Try.f9 21) = impl_TreeText.T21:=by kernel_rfl
theorem impl_TreeText.bits21 : waitsOk impl_TreeText.T21.2 impl_TreeText.B21 = true:=by kernel_rfl
set_option maxHeartbeats 8000000 in
set_option maxRecDepth 100000 in
theorem impl_TreeText.calls (k : Nat) (A0_0 : Option Addr) (c0_0 : Nat) (l0_0 : List (S51)) (A1_0 : Option Addr) (c1_0 : Nat) (l1_0 : List (S47)) (r : ByteArray) (w : World) (hr0_0 : Kd.C k51 w A0_0 l0_0.length l0_0) (hc0_0 : l0_0.length ≤ c0_0) (hr1_0 : Kd.C k47 w A1_0 l1_0.length l1_0) (hc1_0 : l1_0.length ≤ c1_0) (h : impl_TreeText.f k l0_0 l1_0 = some r) :
  Calls Try.prog 9 #[.agg #[.slice A0_0 l0_0.length c0_0],.agg #[.slice A1_0 l1_0.length c1_0]] w fun e w' => e = .returned (.string r) ∧ Below w.heap.size w w':=by
 have hu33:=Try.underlying33
 have hu37:=Try.underlying37
 have hu47:=Try.underlying47
 have HR0_0:=zm_ hr0_0
 have HC0_0:=zm_ hc0_0
 clear hr0_0 hc0_0
 have HR1_0:=zm_ hr1_0
 have HC1_0:=zm_ hc1_0
 clear hr1_0 hc1_0
 have HB:=zm_ (Below.refl w.heap.size w)
 have H : (if (l1_0.length : Int) = 0 then (impl_TreeText.j0 k true l0_0 l1_0) else ((impl_kidsRight.f k l1_0).bind fun t288 => (impl_TreeText.j0 k (!t288) l0_0 l1_0))) = some r:=h
 clear h
 have HC3:=zm_ H
 clear H
 go_enter Try.func9,Try.ntmps9
 go_upto_region 1 with (first|((with_reducible refine gate_dst (N:=2) rfl ?_);refine box_event ?hg (N:=2) ?hd (cs:=#[.slice A0_0 l0_0.length c0_0]) (t:=33) ?hr ?_;(case hd => rfl);(case hg => rfl);(case hr => first|(go_simp;done)|(go_simp;rfl));intro gb286 hg w4 hbox hb;have n0_:=zm_ (below_step zB_ hb);have n1_:=zm_ (hbox);have n2_:=zm_ ((by rw [hg];exact (below_size zB_) : w.heap.size ≤ gb286));have n3_:=zm_ ((by rw [hg];exact (below_size zB_) : w.heap.size ≤ gb286));clear HB;have HB:=n0_;have BK286:=n1_;have GW286:=n2_;have GE286:=n3_;clear n0_ n1_ n2_ n3_;clear hb hbox hg)|((with_reducible refine gate_dst (N:=3) rfl ?_);refine box_event ?hg (N:=3) ?hd (cs:=#[.slice A1_0 l1_0.length c1_0]) (t:=37) ?hr ?_;(case hd => rfl);(case hg => rfl);(case hr => first|(go_simp;done)|(go_simp;rfl));intro gb287 hg w5 hbox hb;have n0_:=zm_ (blk_below (g:=gb286) (o:=.cells #[.slice A0_0 l0_0.length c0_0] 33 (0,0)) (by (with_reducible repeat first|refine zl_ ?_ _|refine zr_ ?_|refine zk_ ?_ _);exact BK286.out) hb);have n1_:=zm_ (below_step (by repeat (first|(with_reducible first|exact HB.out|apply za_|apply zn_|apply zd_|refine zs_ ?_ GE286.out)|exact HB.out)) hb);have n2_:=zm_ (hbox);have n3_:=zm_ ((by rw [hg];exact (below_size (by repeat (first|(with_reducible first|exact HB.out|apply za_|apply zn_|apply zd_|refine zs_ ?_ GE286.out)|exact HB.out))) : w.heap.size ≤ gb287));have n4_:=zm_ ((by rw [hg];exact (below_size (by repeat (first|(with_reducible first|exact HB.out|apply za_|apply zn_|apply zd_|refine zs_ ?_ GE286.out)|exact HB.out))) : w.heap.size ≤ gb287));have n5_:=zm_ ((by rw [hg];exact Nat.ne_of_lt (blk_lt (g:=gb286) (o:=.cells #[.slice A0_0 l0_0.length c0_0] 33 (0,0)) (by (with_reducible repeat first|refine zl_ ?_ _|refine zr_ ?_|refine zk_ ?_ _);exact BK286.out)) : gb286 ≠ gb287));have n6_:=zm_ ((by rw [hg];exact Nat.ne_of_gt (blk_lt (g:=gb286) (o:=.cells #[.slice A0_0 l0_0.length c0_0] 33 (0,0)) (by (with_reducible repeat first|refine zl_ ?_ _|refine zr_ ?_|refine zk_ ?_ _);exact BK286.out)) : gb287 ≠ gb286));clear BK286;clear HB;have BK286:=n0_;have HB:=n1_;have BK287:=n2_;have GW287:=n3_;have GE287:=n4_;have NB286_287:=n5_;have NB287_286:=n6_;clear n0_ n1_ n2_ n3_ n4_ n5_ n6_;clear hb hbox hg))
 (try simp only [Act.put,List.setIfInBounds_toArray,List.set_cons_zero,List.set_cons_succ])
 go_cut [20] (fun v20 wc => ∃ (kq : Nat) (x20_2 : Bool),v20 = .bool x20_2 ∧ Aside0 (impl_TreeText.j0 kq x20_2 l0_0 l1_0 = some r) ∧ Aside0 (kq ≤ k) ∧ Aside0 (wc.heap[gb286]? = some (.cells #[(.slice A0_0 l0_0.length c0_0)] 33 (0,0))) ∧ Aside0 (wc.heap[gb287]? = some (.cells #[(.slice A1_0 l1_0.length c1_0)] 37 (0,0))) ∧ Aside0 (Below w.heap.size w wc))
 case first =>
  have H:=HC3.out
  clear HC3
  by_cases c6 : (l1_0.length : Int) = 0
  ·rw [if_pos c6] at H
   have c6b0 : ((l1_0.length : Int) == 0) = true:=beq_iff_eq.mpr c6
   have c6b1 : ((l1_0.length : Int) != 0) = false:=bne_eq_false_iff_eq.mpr c6
   clear c6
   (first|rw [c6b0]|(simp only [i64_w,i32_w];rw [c6b0])|skip)
   have H':=zm_ H
   clear H
   have hnb7:=NB287_286.out
   have hnc7:=NB286_287.out
   have hcz8_0 : w5.cell? ⟨gb287,0,none⟩ = some (.slice A1_0 l1_0.length c1_0):=(zc_ BK287.out 0).trans rfl
   have hfz8_0:=zf_ BK287.out 0
   go_wp2
   go_meet
   case rel => exact ⟨_,(true),zV_,H',⟨by first|omega|exact Nat.le_refl _⟩,⟨by (with_reducible repeat first|refine zl_ ?_ _|refine zr_ ?_|refine zk_ ?_ _);exact BK286.out⟩,⟨by (with_reducible repeat first|refine zl_ ?_ _|refine zr_ ?_|refine zk_ ?_ _);exact BK287.out⟩,⟨by repeat (first|(with_reducible first|exact HB.out|apply za_|apply zn_|apply zd_|refine zs_ ?_ GE286.out|refine zs_ ?_ GE287.out)|exact HB.out)⟩⟩
  ·rw [if_neg c6] at H
   have c6b0 : ((l1_0.length : Int) == 0) = false:=beq_eq_false_iff_ne.mpr c6
   have c6b1 : ((l1_0.length : Int) != 0) = true:=bne_iff_ne.mpr c6
   have c6b2 : ¬ (l1_0 = []):=fun h_ => c6 (by rw [h_];rfl)
   (first|rw [c6b0]|(simp only [i64_w,i32_w];rw [c6b0])|skip)
   replace H:=Option.bind_eq_some_iff.mp H
   obtain ⟨t288,A90,H⟩:=H
   replace H : (impl_TreeText.j0 k (!t288) l0_0 l1_0) = some r:=H
   have A9:=zm_ A90
   clear A90
   have H':=zm_ H
   clear H
   have hnb10:=NB287_286.out
   have hnc10:=NB286_287.out
   have hcz11_0 : w5.cell? ⟨gb287,0,none⟩ = some (.slice A1_0 l1_0.length c1_0):=(zc_ BK287.out 0).trans rfl
   have hfz11_0:=zf_ BK287.out 0
   go_wp2_with (first|(go_at_call 17;(with_reducible refine (impl_kidsRight.calls k _ _ l1_0 t288 _ ?side1 ?side2 A9.out).mono ?_);(case side1 => repeat (first|exact (Kd.C_below HR1_0.out HB.out)|(with_reducible refine Kd.C_alloc ?_ _)|(with_reducible refine Kd.C_drewN ?_ _)|(with_reducible refine Kd.C_drew ?_)));(case side2 => exact HC1_0.out);rintro e w12 ⟨rfl,hb⟩;have n0_:=zm_ (blk_below (g:=gb286) (o:=.cells #[.slice A0_0 l0_0.length c0_0] 33 (0,0)) (by (with_reducible repeat first|refine zl_ ?_ _|refine zr_ ?_|refine zk_ ?_ _);exact BK286.out) hb);have n1_:=zm_ (blk_below (g:=gb287) (o:=.cells #[.slice A1_0 l1_0.length c1_0] 37 (0,0)) (by (with_reducible repeat first|refine zl_ ?_ _|refine zr_ ?_|refine zk_ ?_ _);exact BK287.out) hb);have n2_:=zm_ (below_step (by repeat (first|(with_reducible first|exact HB.out|apply za_|apply zn_|apply zd_|refine zs_ ?_ GE286.out|refine zs_ ?_ GE287.out)|exact HB.out)) hb);clear BK286;clear BK287;clear HB;have BK286:=n0_;have BK287:=n1_;have HB:=n2_;clear n0_ n1_ n2_;(try clear hb)))
   go_meet
   case rel => exact ⟨_,(!t288),zV_,H',⟨by first|omega|exact Nat.le_refl _⟩,⟨by (with_reducible repeat first|refine zl_ ?_ _|refine zr_ ?_|refine zk_ ?_ _);exact BK286.out⟩,⟨by (with_reducible repeat first|refine zl_ ?_ _|refine zr_ ?_|refine zk_ ?_ _);exact BK287.out⟩,⟨by repeat (first|(with_reducible first|exact HB.out|apply za_|apply zn_|apply zd_|refine zs_ ?_ GE286.out|refine zs_ ?_ GE287.out)|exact HB.out)⟩⟩
 case rest =>
  clear HC3
  try clear c1
  try clear p2
  try clear c6
  try clear c6b0
  try clear c6b1
  try clear c6b2
  try clear c7
  try clear c9
  try clear c10
  try clear hcz11_0
  try clear hcz8_0
  try clear hfz11_0
  try clear hfz8_0
  obtain ⟨kq,x20_2,rfl,HA,HJ2,BK286,BK287,HB⟩:=hcut
  cases kq with
  |zero => exact absurd HA.out (by simp [impl_TreeText.j0])
  |succ kj2 =>
   have H:=HA.out
   clear HA
   simp only [impl_TreeText.j0] at H
   by_cases c13 : x20_2 = true
   ·subst c13
    have H1 : (some (⟨#[]⟩ : ByteArray)) = some r:=by rw [if_pos rfl] at H;exact H
    clear H
    have H:=H1
    clear H1
    obtain rfl:=Option.some.inj H
    go_wp2
    go_ret
    exact ⟨zE_,by repeat (first|(with_reducible first|exact HB.out|apply za_|apply zn_|apply zd_|refine zs_ ?_ GE286.out|refine zs_ ?_ GE287.out)|exact HB.out)⟩
   ·replace c13:=Bool.eq_false_iff.mpr c13
    subst c13
    have H1 : (impl_TreeText.l0 kj2 (([] : List ByteArray)) l1_0 (l1_0.length : Int) 0 l0_0) = some r:=by rw [if_neg (show ¬ (false = true) by decide)] at H;exact H
    clear H
    have H:=H1
    clear H1
    obtain ⟨y289,hy289⟩ : ∃ y_ : List ByteArray,y_ = (([] : List ByteArray)):=⟨_,rfl⟩
    replace H : (impl_TreeText.l0 kj2 y289 l1_0 (l1_0.length : Int) 0 l0_0) = some r:=by first|(rw [hy289];with_reducible exact H)|(have H2_:=(Option.bind_some _ _).symm.trans H;rw [hy289];with_reducible exact H2_)|(have H2_:=(Option.bind_some _ _).symm.trans H;with_reducible exact H2_)|with_reducible exact H|(rw [hy289];exact H)|exact H
    have Ny289:=zm_ hy289
    clear hy289
    have H':=zm_ H
    clear H
    go_wp2_with (first|((with_reducible refine gate_dst (N:=21) rfl ?_);refine Kd.R_lit Kd.string _ 9 ?hg (N:=21) ?hd (xs:=([] : List ByteArray)) (inner:=[]) (ok:=fun _ => True) (okp:=fun _ => True) ?hr ?hp (fun _ hk => hk) trivial (Below.refl _ _) (Nat.le_refl _) (by simp) ?_;(case hd => rfl);(case hg => rfl);(case hr => first|(go_simp;done)|(go_simp;rfl));(case hp => exact (Reps.none _ _));intro v290 w14 ho15 hb hg_ hnew_;clear hg_ hnew_;(first|rw [← Ny289.out] at ho15|(simp only [Int.reduceToNat] at ho15;rw [← Ny289.out] at ho15));have n0_:=zm_ (Kd.R_lower ho15 (below_size (by repeat (first|(with_reducible first|exact HB.out|apply za_|apply zn_|apply zd_|refine zs_ ?_ GE286.out|refine zs_ ?_ GE287.out)|exact HB.out))));have n1_:=zm_ (blk_below (g:=gb286) (o:=.cells #[.slice A0_0 l0_0.length c0_0] 33 (0,0)) (by (with_reducible repeat first|refine zl_ ?_ _|refine zr_ ?_|refine zk_ ?_ _);exact BK286.out) hb);have n2_:=zm_ (blk_below (g:=gb287) (o:=.cells #[.slice A1_0 l1_0.length c1_0] 37 (0,0)) (by (with_reducible repeat first|refine zl_ ?_ _|refine zr_ ?_|refine zk_ ?_ _);exact BK287.out) hb);have n3_:=zm_ (below_step (by repeat (first|(with_reducible first|exact HB.out|apply za_|apply zn_|apply zd_|refine zs_ ?_ GE286.out|refine zs_ ?_ GE287.out)|exact HB.out)) hb);clear BK286;clear BK287;clear HB;have HO291:=n0_;have BK286:=n1_;have BK287:=n2_;have HB:=n3_;clear n0_ n1_ n2_ n3_;clear hb ho15;have hnb16:=NB287_286.out;have hnc16:=NB286_287.out;have hcz17_0 : w14.cell? ⟨gb287,0,none⟩ = some (.slice A1_0 l1_0.length c1_0):=(zc_ BK287.out 0).trans rfl;have hfz17_0:=zf_ BK287.out 0))
    go_loopg [5,25] kj2 (fun kq v5 v25 w' => ∃ (x5_2 : List ByteArray) (x25_2 : Int),v25 = .int .i64 x25_2 ∧ Aside0 (impl_TreeText.l0 kq x5_2 l1_0 (l1_0.length : Int) x25_2 l0_0 = some r) ∧ Aside0 (kq ≤ kj2) ∧ Aside0 (Kd.R Kd.string 9 w' w.heap.size (fun _ => True) v5 x5_2) ∧ Aside0 (w'.heap[gb286]? = some (.cells #[(.slice A0_0 l0_0.length c0_0)] 33 (0,0))) ∧ Aside0 (w'.heap[gb287]? = some (.cells #[(.slice A1_0 l1_0.length c1_0)] 37 (0,0))) ∧ Aside0 (Below w.heap.size w w'))
    case atStart => exact ⟨(y289),(0),zV_,H',⟨Nat.le_refl _⟩,⟨by (with_reducible repeat (first|apply Kd.R_alloc|apply Kd.R_drewN|apply Kd.R_drew));exact HO291.out⟩,⟨by (with_reducible repeat first|refine zl_ ?_ _|refine zr_ ?_|refine zk_ ?_ _);exact BK286.out⟩,⟨by (with_reducible repeat first|refine zl_ ?_ _|refine zr_ ?_|refine zk_ ?_ _);exact BK287.out⟩,⟨by repeat (first|(with_reducible first|exact HB.out|apply za_|apply zn_|apply zd_|refine zs_ ?_ GE286.out|refine zs_ ?_ GE287.out)|exact HB.out)⟩⟩
    case round =>
     clear H'
     try clear c1
     try clear p2
     try clear c6
     try clear c6b0
     try clear c6b1
     try clear c6b2
     try clear c7
     try clear c9
     try clear c10
     try clear c13
     try clear c16
     try clear hcz11_0
     try clear hcz17_0
     try clear hcz8_0
     try clear hfz11_0
     try clear hfz17_0
     try clear hfz8_0
     try clear p2
     obtain ⟨x5_2,x25_2,rfl,HA,HK2,HO_5,BK286,BK287,HB⟩:=hrel
     cases gk with
     |zero => exact absurd HA.out (by simp [impl_TreeText.l0])
     |succ k2 =>
      have H:=HA.out
      clear HA
      simp only [impl_TreeText.l0] at H
      by_cases c18 : x25_2 < (l1_0.length : Int)
      ·rw [if_pos c18] at H
       have c18b0 : decide (x25_2 < (l1_0.length : Int)) = true:=decide_eq_true c18
       clear c18
       by_cases c19 : 0 ≤ x25_2
       ·rw [if_pos c19] at H
        have c19b0 : decide (0 ≤ x25_2) = true:=decide_eq_true c19
        clear c19
        by_cases c20 : x25_2 < (l1_0.length : Int)
        ·rw [if_pos c20] at H
         have c20b0 : decide (x25_2 < (l1_0.length : Int)) = true:=decide_eq_true c20
         clear c20
         replace H:=Option.bind_eq_some_iff.mp H
         obtain ⟨t295,A210,H⟩:=H
         replace H : (if t295 = true then (if 0 ≤ ((rd_T47 l1_0 x25_2).f0) then (if ((rd_T47 l1_0 x25_2).f0) < (l0_0.length : Int) then (impl_TreeText.l1 k2 x5_2 (([] : List ByteArray)) (wrap64 ((wrap64 ((((rd_T51 l0_0 ((rd_T47 l1_0 x25_2).f0)).f0).size : Int) + 2)) + (mx (wrap64 ((((rd_T47 l1_0 x25_2).f5).length : Int) - 1)) 0))) l1_0 (l1_0.length : Int) x25_2 ((rd_T47 l1_0 x25_2).f5) (((rd_T47 l1_0 x25_2).f5).length : Int) 0 l0_0 ((rd_T47 l1_0 x25_2).f0) ((rd_T47 l1_0 x25_2).f1) ((rd_T47 l1_0 x25_2).f2) ((rd_T47 l1_0 x25_2).f3) ((rd_T47 l1_0 x25_2).f4) ((rd_T47 l1_0 x25_2).f5)) else (none)) else (none)) else (some (⟨#[]⟩ : ByteArray))) = some r:=H
         have A21:=zm_ A210
         clear A210
         by_cases c22 : t295 = true
         ·subst c22
          have H1 : (if 0 ≤ ((rd_T47 l1_0 x25_2).f0) then (if ((rd_T47 l1_0 x25_2).f0) < (l0_0.length : Int) then (impl_TreeText.l1 k2 x5_2 (([] : List ByteArray)) (wrap64 ((wrap64 ((((rd_T51 l0_0 ((rd_T47 l1_0 x25_2).f0)).f0).size : Int) + 2)) + (mx (wrap64 ((((rd_T47 l1_0 x25_2).f5).length : Int) - 1)) 0))) l1_0 (l1_0.length : Int) x25_2 ((rd_T47 l1_0 x25_2).f5) (((rd_T47 l1_0 x25_2).f5).length : Int) 0 l0_0 ((rd_T47 l1_0 x25_2).f0) ((rd_T47 l1_0 x25_2).f1) ((rd_T47 l1_0 x25_2).f2) ((rd_T47 l1_0 x25_2).f3) ((rd_T47 l1_0 x25_2).f4) ((rd_T47 l1_0 x25_2).f5)) else (none)) else (none)) = some r:=by rw [if_pos rfl] at H;exact H
          clear H
          have H:=H1
          clear H1
          obtain ⟨y296,hy296⟩ : ∃ y_ : List ByteArray,y_ = (([] : List ByteArray)):=⟨_,rfl⟩
          replace H : (if 0 ≤ ((rd_T47 l1_0 x25_2).f0) then (if ((rd_T47 l1_0 x25_2).f0) < (l0_0.length : Int) then (impl_TreeText.l1 k2 x5_2 y296 (wrap64 ((wrap64 ((((rd_T51 l0_0 ((rd_T47 l1_0 x25_2).f0)).f0).size : Int) + 2)) + (mx (wrap64 ((((rd_T47 l1_0 x25_2).f5).length : Int) - 1)) 0))) l1_0 (l1_0.length : Int) x25_2 ((rd_T47 l1_0 x25_2).f5) (((rd_T47 l1_0 x25_2).f5).length : Int) 0 l0_0 ((rd_T47 l1_0 x25_2).f0) ((rd_T47 l1_0 x25_2).f1) ((rd_T47 l1_0 x25_2).f2) ((rd_T47 l1_0 x25_2).f3) ((rd_T47 l1_0 x25_2).f4) ((rd_T47 l1_0 x25_2).f5)) else (none)) else (none)) = some r:=by first|(rw [hy296];with_reducible exact H)|(have H2_:=(Option.bind_some _ _).symm.trans H;rw [hy296];with_reducible exact H2_)|(have H2_:=(Option.bind_some _ _).symm.trans H;with_reducible exact H2_)|with_reducible exact H|(rw [hy296];exact H)|exact H
          have Ny296:=zm_ hy296
          clear hy296
          by_cases c23 : 0 ≤ ((rd_T47 l1_0 x25_2).f0)
          ·rw [if_pos c23] at H
           have c23b0 : decide (0 ≤ ((rd_T47 l1_0 x25_2).f0)) = true:=decide_eq_true c23
           clear c23
           by_cases c24 : ((rd_T47 l1_0 x25_2).f0) < (l0_0.length : Int)
           ·rw [if_pos c24] at H
            have c24b0 : decide (((rd_T47 l1_0 x25_2).f0) < (l0_0.length : Int)) = true:=decide_eq_true c24
            clear c24
            obtain ⟨ji25,hji25⟩ : ∃ j_ : Int,(mx (wrap64 ((((rd_T47 l1_0 x25_2).f5).length : Int) - 1)) 0) = j_:=⟨_,rfl⟩
            replace H : (impl_TreeText.l1 k2 x5_2 y296 (wrap64 ((wrap64 ((((rd_T51 l0_0 ((rd_T47 l1_0 x25_2).f0)).f0).size : Int) + 2)) + (ji25))) l1_0 (l1_0.length : Int) x25_2 ((rd_T47 l1_0 x25_2).f5) (((rd_T47 l1_0 x25_2).f5).length : Int) 0 l0_0 ((rd_T47 l1_0 x25_2).f0) ((rd_T47 l1_0 x25_2).f1) ((rd_T47 l1_0 x25_2).f2) ((rd_T47 l1_0 x25_2).f3) ((rd_T47 l1_0 x25_2).f4) ((rd_T47 l1_0 x25_2).f5)) = some r:=by first|(rw [hji25] at H;exact H)|(simp only [hji25] at H ⊢;exact H)
            (try rw [hji25] at A21)
            have hji25_ : (if (wrap64 ((((rd_T47 l1_0 x25_2).f5).length : Int) - 1)) < 0 then 0 else (wrap64 ((((rd_T47 l1_0 x25_2).f5).length : Int) - 1))) = ji25:=hji25
            have H':=zm_ H
            clear H
            have p293 : 0 ≤ (x25_2 : Int):=zo_
            have q293 : x25_2 < (l1_0.length : Int):=zo_
            obtain ⟨ad293,A293_2,c293_2,A293_5,c293_5,e293,hx293_0,hx293_1,hx293_2,hx293_3,hx293_4,hx293_5,hl293_2,hi293_2,hl293_5,hi293_5⟩:=at_T47 HR1_0.out x25_2 p293 q293
            cases e293
            replace hx293_0:=(HB.out.cell (zb_ w _ hx293_0)).trans hx293_0
            replace hx293_1:=(HB.out.cell (zb_ w _ hx293_1)).trans hx293_1
            replace hx293_2:=(HB.out.cell (zb_ w _ hx293_2)).trans hx293_2
            replace hx293_3:=(HB.out.cell (zb_ w _ hx293_3)).trans hx293_3
            replace hx293_4:=(HB.out.cell (zb_ w _ hx293_4)).trans hx293_4
            replace hx293_5:=(HB.out.cell (zb_ w _ hx293_5)).trans hx293_5
            have HR293_2:=zm_ hi293_2
            have HC293_2:=zm_ hl293_2
            clear hi293_2 hl293_2
            have HR293_5:=zm_ hi293_5
            have HC293_5:=zm_ hl293_5
            clear hi293_5 hl293_5
            replace p293:=eq_true p293
            replace q293:=eq_true q293
            try go_wp2_with (first|((with_reducible refine gate_dst (N:=7) rfl ?_);refine box_event ?hg (N:=7) ?hd (cs:=#[.int .i64 0,.int .i64 0,.slice none 0 0,.int .i64 0,.int .i64 0,.slice none 0 0]) (t:=47) ?hr ?_;(case hd => rfl);(case hg => rfl);(case hr => first|(go_simp;done)|(go_simp;rfl));intro gb294 hg w26 hbox hb;have n0_:=zm_ (Kd.R_below (by (with_reducible repeat (first|apply Kd.R_alloc|apply Kd.R_drewN|apply Kd.R_drew));exact HO_5.out) hb);have n1_:=zm_ (blk_below (g:=gb286) (o:=.cells #[.slice A0_0 l0_0.length c0_0] 33 (0,0)) (by (with_reducible repeat first|refine zl_ ?_ _|refine zr_ ?_|refine zk_ ?_ _);exact BK286.out) hb);have n2_:=zm_ (blk_below (g:=gb287) (o:=.cells #[.slice (some ad293) l1_0.length c1_0] 37 (0,0)) (by (with_reducible repeat first|refine zl_ ?_ _|refine zr_ ?_|refine zk_ ?_ _);exact BK287.out) hb);have n3_:=zm_ (below_step (by repeat (first|(with_reducible first|exact HB.out|apply za_|apply zn_|apply zd_|refine zs_ ?_ GE286.out|refine zs_ ?_ GE287.out)|exact HB.out)) hb);have n4_:=zm_ (hbox);have n5_:=zm_ ((by rw [hg];exact (below_size (by repeat (first|(with_reducible first|exact HB.out|apply za_|apply zn_|apply zd_|refine zs_ ?_ GE286.out|refine zs_ ?_ GE287.out)|exact HB.out))) : w.heap.size ≤ gb294));have n6_:=zm_ ((by rw [hg];exact (below_size (by repeat (first|(with_reducible first|exact HB.out|apply za_|apply zn_|apply zd_|refine zs_ ?_ GE286.out|refine zs_ ?_ GE287.out)|exact HB.out))) : w.heap.size ≤ gb294));have n7_:=zm_ ((by rw [hg];exact Nat.ne_of_lt (blk_lt (g:=gb286) (o:=.cells #[.slice A0_0 l0_0.length c0_0] 33 (0,0)) (by (with_reducible repeat first|refine zl_ ?_ _|refine zr_ ?_|refine zk_ ?_ _);exact BK286.out)) : gb286 ≠ gb294));have n8_:=zm_ ((by rw [hg];exact Nat.ne_of_gt (blk_lt (g:=gb286) (o:=.cells #[.slice A0_0 l0_0.length c0_0] 33 (0,0)) (by (with_reducible repeat first|refine zl_ ?_ _|refine zr_ ?_|refine zk_ ?_ _);exact BK286.out)) : gb294 ≠ gb286));have n9_:=zm_ ((by rw [hg];exact Nat.ne_of_lt (blk_lt (g:=gb287) (o:=.cells #[.slice (some ad293) l1_0.length c1_0] 37 (0,0)) (by (with_reducible repeat first|refine zl_ ?_ _|refine zr_ ?_|refine zk_ ?_ _);exact BK287.out)) : gb287 ≠ gb294));have n10_:=zm_ ((by rw [hg];exact Nat.ne_of_gt (blk_lt (g:=gb287) (o:=.cells #[.slice (some ad293) l1_0.length c1_0] 37 (0,0)) (by (with_reducible repeat first|refine zl_ ?_ _|refine zr_ ?_|refine zk_ ?_ _);exact BK287.out)) : gb294 ≠ gb287));clear HO_5;clear BK286;clear BK287;clear HB;have HO_5:=n0_;have BK286:=n1_;have BK287:=n2_;have HB:=n3_;have BK294:=n4_;have GW294:=n5_;have GE294:=n6_;have NB286_294:=n7_;have NB294_286:=n8_;have NB287_294:=n9_;have NB294_287:=n10_;clear n0_ n1_ n2_ n3_ n4_ n5_ n6_ n7_ n8_ n9_ n10_;clear hb hbox hg;have hnb27:=NB294_286.out;have hnc27:=NB286_294.out;have hnb28:=NB294_287.out;have hnc28:=NB287_294.out;have hcz29_0 : w26.cell? ⟨gb294,0,none⟩ = some (.int .i64 0):=(zc_ BK294.out 0).trans rfl;have hcz29_1 : w26.cell? ⟨gb294,1,none⟩ = some (.int .i64 0):=(zc_ BK294.out 1).trans rfl;have hcz29_2 : w26.cell? ⟨gb294,2,none⟩ = some (.slice none 0 0):=(zc_ BK294.out 2).trans rfl;have hcz29_3 : w26.cell? ⟨gb294,3,none⟩ = some (.int .i64 0):=(zc_ BK294.out 3).trans rfl;have hcz29_4 : w26.cell? ⟨gb294,4,none⟩ = some (.int .i64 0):=(zc_ BK294.out 4).trans rfl;have hcz29_5 : w26.cell? ⟨gb294,5,none⟩ = some (.slice none 0 0):=(zc_ BK294.out 5).trans rfl;have hfz29_0:=zf_ BK294.out 0;have hfz29_1:=zf_ BK294.out 1;have hfz29_2:=zf_ BK294.out 2;have hfz29_3:=zf_ BK294.out 3;have hfz29_4:=zf_ BK294.out 4;have hfz29_5:=zf_ BK294.out 5;have hnb30:=NB286_287.out;have hnc30:=NB287_286.out;have hcz31_0 : w26.cell? ⟨gb286,0,none⟩ = some (.slice A0_0 l0_0.length c0_0):=(zc_ BK286.out 0).trans rfl;have hfz31_0:=zf_ BK286.out 0)|((with_reducible refine gate_callee (f:=18) rfl ?_);refine goesL_ (some 35) rfl rfl Try.func18 (by kernel_rfl) rfl #[.int .i64 ((rd_T47 l1_0 x25_2).f0),.int .i64 0,.int .i64 (wrap64 ((l0_0.length : Int) - 1))] rfl zq_ ?_;(with_reducible refine (impl_within.calls ((rd_T47 l1_0 x25_2).f0) 0 (wrap64 ((l0_0.length : Int) - 1)) true _ A21.out).mono ?_);rintro e w' ⟨rfl,⟨nd,rfl⟩⟩;refine ⟨_,rfl,?_⟩)|((with_reducible refine gate_dst (N:=37) rfl ?_);refine Kd.R_lit Kd.string _ 9 ?hg (N:=37) ?hd (xs:=([] : List ByteArray)) (inner:=[]) (ok:=fun _ => True) (okp:=fun _ => True) ?hr ?hp (fun _ hk => hk) trivial (Below.refl _ _) (Nat.le_refl _) (by simp) ?_;(case hd => rfl);(case hg => rfl);(case hr => first|(go_simp;done)|(go_simp;rfl));(case hp => exact (Reps.none _ _));intro v297 w32 ho33 hb hg_ hnew_;clear hg_ hnew_;(first|rw [← Ny296.out] at ho33|(simp only [Int.reduceToNat] at ho33;rw [← Ny296.out] at ho33));have n0_:=zm_ (Kd.R_elder' (by (with_reducible repeat (first|apply Kd.R_alloc|apply Kd.R_drewN|apply Kd.R_drew));exact (Kd.R_mono (Kd.R_far (p:=⟨gb294,5,none⟩) (Kd.R_far (p:=⟨gb294,4,none⟩) (Kd.R_far (p:=⟨gb294,3,none⟩) (Kd.R_far (p:=⟨gb294,2,none⟩) (Kd.R_far (p:=⟨gb294,1,none⟩) (Kd.R_far (p:=⟨gb294,0,none⟩) (Kd.R_types HO_5.out BK294.out (by decide)) (fun _ hk => hk.2) (.int .i64 ((rd_T47 l1_0 x25_2).f0))) (fun _ hk => hk.2) (.int .i64 ((rd_T47 l1_0 x25_2).f1))) (fun _ hk => hk.2) (.slice A293_2 ((rd_T47 l1_0 x25_2).f2).length c293_2)) (fun _ hk => hk.2) (.int .i64 ((rd_T47 l1_0 x25_2).f3))) (fun _ hk => hk.2) (.int .i64 ((rd_T47 l1_0 x25_2).f4))) (fun _ hk => hk.2) (.slice A293_5 ((rd_T47 l1_0 x25_2).f5).length c293_5)) (fun _ h_ => h_.1))) (Kd.R_base ho33) hb);have n1_:=zm_ (Kd.R_lower (Kd.R_new' ho33 (Kd.R_lt (by (with_reducible repeat (first|apply Kd.R_alloc|apply Kd.R_drewN|apply Kd.R_drew));exact (Kd.R_mono (Kd.R_far (p:=⟨gb294,5,none⟩) (Kd.R_far (p:=⟨gb294,4,none⟩) (Kd.R_far (p:=⟨gb294,3,none⟩) (Kd.R_far (p:=⟨gb294,2,none⟩) (Kd.R_far (p:=⟨gb294,1,none⟩) (Kd.R_far (p:=⟨gb294,0,none⟩) (Kd.R_types HO_5.out BK294.out (by decide)) (fun _ hk => hk.2) (.int .i64 ((rd_T47 l1_0 x25_2).f0))) (fun _ hk => hk.2) (.int .i64 ((rd_T47 l1_0 x25_2).f1))) (fun _ hk => hk.2) (.slice A293_2 ((rd_T47 l1_0 x25_2).f2).length c293_2)) (fun _ hk => hk.2) (.int .i64 ((rd_T47 l1_0 x25_2).f3))) (fun _ hk => hk.2) (.int .i64 ((rd_T47 l1_0 x25_2).f4))) (fun _ hk => hk.2) (.slice A293_5 ((rd_T47 l1_0 x25_2).f5).length c293_5)) (fun _ h_ => h_.1))))) (below_size (by repeat (first|(with_reducible first|exact HB.out|apply za_|apply zn_|apply zd_|refine zs_ ?_ GE286.out|refine zs_ ?_ GE287.out|refine zs_ ?_ GE294.out)|exact HB.out))));have n2_:=zm_ (blk_below (g:=gb286) (o:=.cells #[.slice A0_0 l0_0.length c0_0] 33 (0,0)) (by (with_reducible repeat first|refine zl_ ?_ _|refine zr_ ?_|refine zk_ ?_ _);refine blk_far ?_ NB286_294.out _;(with_reducible repeat first|refine zl_ ?_ _|refine zr_ ?_|refine zk_ ?_ _);refine blk_far ?_ NB286_294.out _;(with_reducible repeat first|refine zl_ ?_ _|refine zr_ ?_|refine zk_ ?_ _);refine blk_far ?_ NB286_294.out _;(with_reducible repeat first|refine zl_ ?_ _|refine zr_ ?_|refine zk_ ?_ _);refine blk_far ?_ NB286_294.out _;(with_reducible repeat first|refine zl_ ?_ _|refine zr_ ?_|refine zk_ ?_ _);refine blk_far ?_ NB286_294.out _;(with_reducible repeat first|refine zl_ ?_ _|refine zr_ ?_|refine zk_ ?_ _);refine blk_far ?_ NB286_294.out _;(with_reducible repeat first|refine zl_ ?_ _|refine zr_ ?_|refine zk_ ?_ _);exact BK286.out) hb);have n3_:=zm_ (blk_below (g:=gb287) (o:=.cells #[.slice (some ad293) l1_0.length c1_0] 37 (0,0)) (by (with_reducible repeat first|refine zl_ ?_ _|refine zr_ ?_|refine zk_ ?_ _);refine blk_far ?_ NB287_294.out _;(with_reducible repeat first|refine zl_ ?_ _|refine zr_ ?_|refine zk_ ?_ _);refine blk_far ?_ NB287_294.out _;(with_reducible repeat first|refine zl_ ?_ _|refine zr_ ?_|refine zk_ ?_ _);refine blk_far ?_ NB287_294.out _;(with_reducible repeat first|refine zl_ ?_ _|refine zr_ ?_|refine zk_ ?_ _);refine blk_far ?_ NB287_294.out _;(with_reducible repeat first|refine zl_ ?_ _|refine zr_ ?_|refine zk_ ?_ _);refine blk_far ?_ NB287_294.out _;(with_reducible repeat first|refine zl_ ?_ _|refine zr_ ?_|refine zk_ ?_ _);refine blk_far ?_ NB287_294.out _;(with_reducible repeat first|refine zl_ ?_ _|refine zr_ ?_|refine zk_ ?_ _);exact BK287.out) hb);have n4_:=zm_ (blk_below (g:=gb294) (o:=.cells #[.int .i64 ((rd_T47 l1_0 x25_2).f0),.int .i64 ((rd_T47 l1_0 x25_2).f1),.slice A293_2 ((rd_T47 l1_0 x25_2).f2).length c293_2,.int .i64 ((rd_T47 l1_0 x25_2).f3),.int .i64 ((rd_T47 l1_0 x25_2).f4),.slice A293_5 ((rd_T47 l1_0 x25_2).f5).length c293_5] 47 (0,0)) (by (with_reducible repeat first|refine zl_ ?_ _|refine zr_ ?_|refine zk_ ?_ _);refine blk_put (cs:=#[.int .i64 ((rd_T47 l1_0 x25_2).f0),.int .i64 ((rd_T47 l1_0 x25_2).f1),.slice A293_2 ((rd_T47 l1_0 x25_2).f2).length c293_2,.int .i64 ((rd_T47 l1_0 x25_2).f3),.int .i64 ((rd_T47 l1_0 x25_2).f4),.slice none 0 0]) ?_ 5 _ rfl;(with_reducible repeat first|refine zl_ ?_ _|refine zr_ ?_|refine zk_ ?_ _);refine blk_put (cs:=#[.int .i64 ((rd_T47 l1_0 x25_2).f0),.int .i64 ((rd_T47 l1_0 x25_2).f1),.slice A293_2 ((rd_T47 l1_0 x25_2).f2).length c293_2,.int .i64 ((rd_T47 l1_0 x25_2).f3),.int .i64 0,.slice none 0 0]) ?_ 4 _ rfl;(with_reducible repeat first|refine zl_ ?_ _|refine zr_ ?_|refine zk_ ?_ _);refine blk_put (cs:=#[.int .i64 ((rd_T47 l1_0 x25_2).f0),.int .i64 ((rd_T47 l1_0 x25_2).f1),.slice A293_2 ((rd_T47 l1_0 x25_2).f2).length c293_2,.int .i64 0,.int .i64 0,.slice none 0 0]) ?_ 3 _ rfl;(with_reducible repeat first|refine zl_ ?_ _|refine zr_ ?_|refine zk_ ?_ _);refine blk_put (cs:=#[.int .i64 ((rd_T47 l1_0 x25_2).f0),.int .i64 ((rd_T47 l1_0 x25_2).f1),.slice none 0 0,.int .i64 0,.int .i64 0,.slice none 0 0]) ?_ 2 _ rfl;(with_reducible repeat first|refine zl_ ?_ _|refine zr_ ?_|refine zk_ ?_ _);refine blk_put (cs:=#[.int .i64 ((rd_T47 l1_0 x25_2).f0),.int .i64 0,.slice none 0 0,.int .i64 0,.int .i64 0,.slice none 0 0]) ?_ 1 _ rfl;(with_reducible repeat first|refine zl_ ?_ _|refine zr_ ?_|refine zk_ ?_ _);refine blk_put (cs:=#[.int .i64 0,.int .i64 0,.slice none 0 0,.int .i64 0,.int .i64 0,.slice none 0 0]) ?_ 0 _ rfl;(with_reducible repeat first|refine zl_ ?_ _|refine zr_ ?_|refine zk_ ?_ _);exact BK294.out) hb);have n5_:=zm_ (below_step (by repeat (first|(with_reducible first|exact HB.out|apply za_|apply zn_|apply zd_|refine zs_ ?_ GE286.out|refine zs_ ?_ GE287.out|refine zs_ ?_ GE294.out)|exact HB.out)) hb);clear HO_5;clear BK286;clear BK287;clear BK294;clear HB;have HO_5:=n0_;have HO298:=n1_;have BK286:=n2_;have BK287:=n3_;have BK294:=n4_;have HB:=n5_;clear n0_ n1_ n2_ n3_ n4_ n5_;clear hb ho33))
            have n0_:=zm_ (Kd.R_drew HO_5.out)
            have n1_:=zm_ (Kd.R_drew HO298.out)
            have n2_:=zm_ (zr_ BK286.out)
            have n3_:=zm_ (zr_ BK287.out)
            have n4_:=zm_ (zr_ BK294.out)
            have n5_:=zm_ (zd_ HB.out)
            clear HO_5
            clear HO298
            clear BK286
            clear BK287
            clear BK294
            clear HB
            have HO_5:=n0_
            have HO298:=n1_
            have BK286:=n2_
            have BK287:=n3_
            have BK294:=n4_
            have HB:=n5_
            clear n0_ n1_ n2_ n3_ n4_ n5_
            have p299 : 0 ≤ (((rd_T47 l1_0 x25_2).f0) : Int):=zo_
            have q299 : ((rd_T47 l1_0 x25_2).f0) < (l0_0.length : Int):=zo_
            obtain ⟨ad299,A299_1,c299_1,A299_2,c299_2,e299,hx299_0,hx299_1,hx299_2,hl299_1,hi299_1,hl299_2,hi299_2⟩:=at_T51 HR0_0.out ((rd_T47 l1_0 x25_2).f0) p299 q299
            have hw299_2:=hx299_2
            have hw299_1:=hx299_1
            have hw299_0:=hx299_0
            cases e299
            replace hx299_0:=(HB.out.cell (zb_ w _ hx299_0)).trans hx299_0
            replace hx299_1:=(HB.out.cell (zb_ w _ hx299_1)).trans hx299_1
            replace hx299_2:=(HB.out.cell (zb_ w _ hx299_2)).trans hx299_2
            have HR299_1:=zm_ hi299_1
            have HC299_1:=zm_ hl299_1
            clear hi299_1 hl299_1
            have HR299_2:=zm_ hi299_2
            have HC299_2:=zm_ hl299_2
            clear hi299_2 hl299_2
            replace p299:=eq_true p299
            replace q299:=eq_true q299
            refine start_ (n:=16) (S:=fun w' => w'.cell? ⟨gb286,0,none⟩ = some (.slice (some ad299) l0_0.length c0_0) ∧ w'.cell? ⟨gb294,0,none⟩ = some (.int .i64 ((rd_T47 l1_0 x25_2).f0)) ∧ w'.cell? ⟨gb294,1,none⟩ = some (.int .i64 ((rd_T47 l1_0 x25_2).f1)) ∧ w'.cell? ⟨gb294,2,none⟩ = some (.slice A293_2 ((rd_T47 l1_0 x25_2).f2).length c293_2) ∧ w'.cell? ⟨gb294,3,none⟩ = some (.int .i64 ((rd_T47 l1_0 x25_2).f3)) ∧ w'.cell? ⟨gb294,4,none⟩ = some (.int .i64 ((rd_T47 l1_0 x25_2).f4)) ∧ w'.cell? ⟨gb294,5,none⟩ = some (.slice A293_5 ((rd_T47 l1_0 x25_2).f5).length c293_5) ∧ w'.cell? (ad299.add ((((rd_T47 l1_0 x25_2).f0)).toNat * 3)) = some (.string ((rd_T51 l0_0 ((rd_T47 l1_0 x25_2).f0)).f0)) ∧ w'.cell? ⟨(ad299.add ((((rd_T47 l1_0 x25_2).f0)).toNat * 3)).block,(ad299.add ((((rd_T47 l1_0 x25_2).f0)).toNat * 3)).off + 1,none⟩ = some (.slice A299_1 ((rd_T51 l0_0 ((rd_T47 l1_0 x25_2).f0)).f1).length c299_1) ∧ w'.cell? ⟨(ad299.add ((((rd_T47 l1_0 x25_2).f0)).toNat * 3)).block,(ad299.add ((((rd_T47 l1_0 x25_2).f0)).toNat * 3)).off + 2,none⟩ = some (.slice A299_2 ((rd_T51 l0_0 ((rd_T47 l1_0 x25_2).f0)).f2).length c299_2)) (ds:=[]) #[false,false,false,false,false,false,false,false,false,false,false,false,false,false,false,false] (by kernel_rfl) rfl rfl ⟨(zc_ BK286.out 0).trans rfl,(zc_ BK294.out 0).trans rfl,(zc_ BK294.out 1).trans rfl,(zc_ BK294.out 2).trans rfl,(zc_ BK294.out 3).trans rfl,(zc_ BK294.out 4).trans rfl,(zc_ BK294.out 5).trans rfl,((HB.out.cell (zb_ w _ hw299_0)).trans hw299_0),((HB.out.cell (zb_ w _ hw299_1)).trans hw299_1),((HB.out.cell (zb_ w _ hw299_2)).trans hw299_2)⟩ (fun hHeld => ?_);refine with_tabW impl_TreeText.tab10 impl_TreeText.bits10 (fun HT_ HW_ => ?_)
            generalize w32.drew = w34 at HO_5 HO298 BK286 BK287 BK294 HB HR299_1 HR299_2 hx299_0 hx299_1 hx299_2 hHeld ⊢
            refine pure_ (i:=0) (N:=some 38) (v:=?_) (a':=?_) #[true,false,false,false,false,false,false,false,false,false,false,false,false,false,false,false] rfl rfl (any_of HT_.out (by kernel_rfl)) (fun _ _ _ h => h) (Or.inl ⟨by rfl,?_⟩) ?_ ?_
            rotate_left
            ·intro w'
             go_simp
             with_reducible rfl
            rotate_left
            ·simp only [Act.put,List.setIfInBounds_toArray,List.set_cons_zero,List.set_cons_succ,i64_w,i32_w,IntKind.wrap_u8]
             rfl
            refine pure_ (i:=2) (N:=some 40) (v:=?_) (a':=?_) #[true,false,true,false,false,false,false,false,false,false,false,false,false,false,false,false] rfl rfl (any_of HT_.out (by kernel_rfl)) (fun _ _ _ h => h) (Or.inl ⟨by rfl,?_⟩) ?_ ?_
            rotate_left
            ·intro w'
             go_simp
             with_reducible rfl
            rotate_left
            ·simp only [Act.put,List.setIfInBounds_toArray,List.set_cons_zero,List.set_cons_succ,i64_w,i32_w,IntKind.wrap_u8]
             rfl
            refine pure_ (i:=9) (N:=some 47) (v:=?_) (a':=?_) #[true,false,true,false,false,false,false,false,false,true,false,false,false,false,false,false] rfl rfl (any_of HT_.out (by kernel_rfl)) (fun _ _ _ h => h) (Or.inl ⟨by rfl,?_⟩) ?_ ?_
            rotate_left
            ·intro w'
             go_simp
             with_reducible rfl
            rotate_left
            ·simp only [Act.put,List.setIfInBounds_toArray,List.set_cons_zero,List.set_cons_succ,i64_w,i32_w,IntKind.wrap_u8]
             rfl
            refine take_ (i:=1) (N:=some 39) (v:=?_) (a':=?_) #[true,true,true,false,false,false,false,false,false,true,false,false,false,false,false,false] rfl rfl (take_ofW HT_.out HW_.out (by kernel_rfl)) (fun _ _ _ h => h) (Or.inl ⟨by rfl,?_⟩) hHeld ?_ ?_
            rotate_left
            ·rintro w' ⟨s0,s1,s2,s3,s4,s5,s6,s7,s8,s9⟩
             go_simp
             with_reducible rfl
            rotate_left
            ·simp only [Act.put,List.setIfInBounds_toArray,List.set_cons_zero,List.set_cons_succ,i64_w,i32_w,IntKind.wrap_u8]
             rfl
            refine take_ (i:=3) (N:=some 41) (v:=?_) (a':=?_) #[true,true,true,true,false,false,false,false,false,true,false,false,false,false,false,false] rfl rfl (take_ofW HT_.out HW_.out (by kernel_rfl)) (fun _ _ _ h => h) (Or.inl ⟨by rfl,?_⟩) hHeld ?_ ?_
            rotate_left
            ·rintro w' ⟨s0,s1,s2,s3,s4,s5,s6,s7,s8,s9⟩
             go_simp
             with_reducible rfl
            rotate_left
            ·simp only [Act.put,List.setIfInBounds_toArray,List.set_cons_zero,List.set_cons_succ,i64_w,i32_w,IntKind.wrap_u8]
             rfl
            refine pure_ (i:=4) (N:=some 42) (v:=?_) (a':=?_) #[true,true,true,true,true,false,false,false,false,true,false,false,false,false,false,false] rfl rfl (any_of HT_.out (by kernel_rfl)) (fun _ _ _ h => h) (Or.inl ⟨by rfl,?_⟩) ?_ ?_
            rotate_left
            ·intro w'
             go_simp
             with_reducible rfl
            rotate_left
            ·simp only [Act.put,List.setIfInBounds_toArray,List.set_cons_zero,List.set_cons_succ,i64_w,i32_w,IntKind.wrap_u8]
             rfl
            refine pure_ (i:=5) (N:=some 43) (v:=?_) (a':=?_) #[true,true,true,true,true,true,false,false,false,true,false,false,false,false,false,false] rfl rfl (any_of HT_.out (by kernel_rfl)) (fun _ _ _ h => h) (Or.inl ⟨by rfl,?_⟩) ?_ ?_
            rotate_left
            ·intro w'
             go_simp
             with_reducible rfl
            rotate_left
            ·simp only [Act.put,List.setIfInBounds_toArray,List.set_cons_zero,List.set_cons_succ,i64_w,i32_w,IntKind.wrap_u8]
             rfl
            refine take_ (i:=6) (N:=some 44) (v:=?_) (a':=?_) #[true,true,true,true,true,true,true,false,false,true,false,false,false,false,false,false] rfl rfl (take_ofW HT_.out HW_.out (by kernel_rfl)) (fun _ _ _ h => h) (Or.inl ⟨by rfl,?_⟩) hHeld ?_ ?_
            rotate_left
            ·rintro w' ⟨s0,s1,s2,s3,s4,s5,s6,s7,s8,s9⟩
             go_simp
             with_reducible rfl
            rotate_left
            ·simp only [Act.put,List.setIfInBounds_toArray,List.set_cons_zero,List.set_cons_succ,i64_w,i32_w,IntKind.wrap_u8]
             rfl
            refine pure_ (i:=7) (N:=some 45) (v:=?_) (a':=?_) #[true,true,true,true,true,true,true,true,false,true,false,false,false,false,false,false] rfl rfl (any_of HT_.out (by kernel_rfl)) (fun _ _ _ h => h) (Or.inl ⟨by rfl,?_⟩) ?_ ?_
            rotate_left
            ·intro w'
             go_simp
             with_reducible rfl
            rotate_left
            ·simp only [Act.put,List.setIfInBounds_toArray,List.set_cons_zero,List.set_cons_succ,i64_w,i32_w,IntKind.wrap_u8]
             rfl
            refine pure_ (i:=8) (N:=some 46) (v:=?_) (a':=?_) #[true,true,true,true,true,true,true,true,true,true,false,false,false,false,false,false] rfl rfl (any_of HT_.out (by kernel_rfl)) (fun _ _ _ h => h) (Or.inl ⟨by rfl,?_⟩) ?_ ?_
            rotate_left
            ·intro w'
             go_simp
             with_reducible rfl
            rotate_left
            ·simp only [Act.put,List.setIfInBounds_toArray,List.set_cons_zero,List.set_cons_succ,i64_w,i32_w,IntKind.wrap_u8]
             rfl
            refine take_ (i:=10) (N:=some 48) (v:=?_) (a':=?_) #[true,true,true,true,true,true,true,true,true,true,true,false,false,false,false,false] rfl rfl (take_ofW HT_.out HW_.out (by kernel_rfl)) (fun _ _ _ h => h) (Or.inl ⟨by rfl,?_⟩) hHeld ?_ ?_
            rotate_left
            ·rintro w' ⟨s0,s1,s2,s3,s4,s5,s6,s7,s8,s9⟩
             go_simp
             with_reducible rfl
            rotate_left
            ·simp only [Act.put,List.setIfInBounds_toArray,List.set_cons_zero,List.set_cons_succ,i64_w,i32_w,IntKind.wrap_u8]
             rfl
            refine pure_ (i:=11) (N:=some 49) (v:=?_) (a':=?_) #[true,true,true,true,true,true,true,true,true,true,true,true,false,false,false,false] rfl rfl (any_of HT_.out (by kernel_rfl)) (fun _ _ _ h => h) (Or.inl ⟨by rfl,?_⟩) ?_ ?_
            rotate_left
            ·intro w'
             go_simp
             with_reducible rfl
            rotate_left
            ·simp only [Act.put,List.setIfInBounds_toArray,List.set_cons_zero,List.set_cons_succ,i64_w,i32_w,IntKind.wrap_u8]
             rfl
            refine pure_ (i:=12) (N:=some 50) (v:=?_) (a':=?_) #[true,true,true,true,true,true,true,true,true,true,true,true,true,false,false,false] rfl rfl (any_of HT_.out (by kernel_rfl)) (fun _ _ _ h => h) (Or.inl ⟨by rfl,?_⟩) ?_ ?_
            rotate_left
            ·intro w'
             go_simp
             with_reducible rfl
            rotate_left
            ·simp only [Act.put,List.setIfInBounds_toArray,List.set_cons_zero,List.set_cons_succ,i64_w,i32_w,IntKind.wrap_u8]
             rfl
            refine pure_ (i:=13) (N:=some 51) (v:=?_) (a':=?_) #[true,true,true,true,true,true,true,true,true,true,true,true,true,true,false,false] rfl rfl (any_of HT_.out (by kernel_rfl)) (fun _ _ _ h => h) (Or.inl ⟨by rfl,?_⟩) ?_ ?_
            rotate_left
            ·intro w'
             go_simp
             with_reducible rfl
            rotate_left
            ·simp only [Act.put,List.setIfInBounds_toArray,List.set_cons_zero,List.set_cons_succ,i64_w,i32_w,IntKind.wrap_u8]
             rfl
            refine pure_ (i:=14) (N:=some 52) (v:=?_) (a':=?_) #[true,true,true,true,true,true,true,true,true,true,true,true,true,true,true,false] rfl rfl (any_of HT_.out (by kernel_rfl)) (fun _ _ _ h => h) (Or.inl ⟨by rfl,?_⟩) ?_ ?_
            rotate_left
            ·intro w'
             go_simp
             with_reducible rfl
            rotate_left
            ·simp only [Act.put,List.setIfInBounds_toArray,List.set_cons_zero,List.set_cons_succ,i64_w,i32_w,IntKind.wrap_u8]
             rfl
            refine pure_ (i:=15) (N:=some 9) (v:=?_) (a':=?_) #[true,true,true,true,true,true,true,true,true,true,true,true,true,true,true,true] rfl rfl (any_of HT_.out (by kernel_rfl)) (fun _ _ _ h => h) (Or.inl ⟨by rfl,?_⟩) ?_ ?_
            rotate_left
            ·intro w'
             go_simp
             with_reducible rfl
            rotate_left
            ·simp only [Act.put,List.setIfInBounds_toArray,List.set_cons_zero,List.set_cons_succ,i64_w,i32_w,IntKind.wrap_u8]
             rfl
            refine done_ (done_of HT_.out (by kernel_rfl)) ?_
            have hcz35_0 : w34.cell? ⟨gb294,0,none⟩ = some (.int .i64 ((rd_T47 l1_0 x25_2).f0)):=(zc_ BK294.out 0).trans rfl
            have hcz35_1 : w34.cell? ⟨gb294,1,none⟩ = some (.int .i64 ((rd_T47 l1_0 x25_2).f1)):=(zc_ BK294.out 1).trans rfl
            have hcz35_2 : w34.cell? ⟨gb294,2,none⟩ = some (.slice A293_2 ((rd_T47 l1_0 x25_2).f2).length c293_2):=(zc_ BK294.out 2).trans rfl
            have hcz35_3 : w34.cell? ⟨gb294,3,none⟩ = some (.int .i64 ((rd_T47 l1_0 x25_2).f3)):=(zc_ BK294.out 3).trans rfl
            have hcz35_4 : w34.cell? ⟨gb294,4,none⟩ = some (.int .i64 ((rd_T47 l1_0 x25_2).f4)):=(zc_ BK294.out 4).trans rfl
            have hcz35_5 : w34.cell? ⟨gb294,5,none⟩ = some (.slice A293_5 ((rd_T47 l1_0 x25_2).f5).length c293_5):=(zc_ BK294.out 5).trans rfl
            have hfz35_0:=zf_ BK294.out 0
            have hfz35_1:=zf_ BK294.out 1
            have hfz35_2:=zf_ BK294.out 2
            have hfz35_3:=zf_ BK294.out 3
            have hfz35_4:=zf_ BK294.out 4
            have hfz35_5:=zf_ BK294.out 5
            try go_wp2
            go_loopg [8,9,56] k2 (fun kq v8 v9 v56 w' => ∃ (x8_3 : List ByteArray) (x9_3 : Int) (x56_3 : Int),v9 = .int .i64 x9_3 ∧ v56 = .int .i64 x56_3 ∧ Aside0 (impl_TreeText.l1 kq x5_2 x8_3 x9_3 l1_0 (l1_0.length : Int) x25_2 ((rd_T47 l1_0 x25_2).f5) (((rd_T47 l1_0 x25_2).f5).length : Int) x56_3 l0_0 ((rd_T47 l1_0 x25_2).f0) ((rd_T47 l1_0 x25_2).f1) ((rd_T47 l1_0 x25_2).f2) ((rd_T47 l1_0 x25_2).f3) ((rd_T47 l1_0 x25_2).f4) ((rd_T47 l1_0 x25_2).f5) = some r) ∧ Aside0 (kq ≤ k2) ∧ Aside0 (Kd.R Kd.string 9 w' w.heap.size (fun k_ => some k_ ≠ (v8 : Value).ownBlock) u5 x5_2) ∧ Aside0 (Kd.R Kd.string 9 w' w.heap.size (fun k_ => some k_ ≠ (u5 : Value).ownBlock) v8 x8_3) ∧ Aside0 (w'.heap[gb286]? = some (.cells #[(.slice (some ad299) l0_0.length c0_0)] 33 (0,0))) ∧ Aside0 (w'.heap[gb287]? = some (.cells #[(.slice (some ad293) l1_0.length c1_0)] 37 (0,0))) ∧ Aside0 (w'.heap[gb294]? = some (.cells #[.int .i64 ((rd_T47 l1_0 x25_2).f0),.int .i64 ((rd_T47 l1_0 x25_2).f1),(.slice A293_2 ((rd_T47 l1_0 x25_2).f2).length c293_2),.int .i64 ((rd_T47 l1_0 x25_2).f3),.int .i64 ((rd_T47 l1_0 x25_2).f4),(.slice A293_5 ((rd_T47 l1_0 x25_2).f5).length c293_5)] 47 (0,0))) ∧ Aside0 (Below w.heap.size w w'))
            case atStart => exact ⟨(y296),(wrap64 ((wrap64 ((((rd_T51 l0_0 ((rd_T47 l1_0 x25_2).f0)).f0).size : Int) + 2)) + (ji25))),(0),(by first|rfl|(exact congrArg Value.bool (isEmpty_ne _))|(exact congrArg Value.bool (isEmpty_ne' _))|(exact congrArg Value.bool (isEmpty_eq _))|(simp;done)|(simp only [← hji25] <;> (first|rfl|simp))|(simp [*];done)),zV_,H',⟨Nat.le_refl _⟩,⟨by (with_reducible repeat (first|apply Kd.R_alloc|apply Kd.R_drewN|apply Kd.R_drew));exact Kd.R_mono HO_5.out (fun _ hk => hk.2)⟩,⟨by (with_reducible repeat (first|apply Kd.R_alloc|apply Kd.R_drewN|apply Kd.R_drew));exact Kd.R_mono HO298.out (fun _ hk => hk.2)⟩,⟨by (with_reducible repeat first|refine zl_ ?_ _|refine zr_ ?_|refine zk_ ?_ _);exact BK286.out⟩,⟨by (with_reducible repeat first|refine zl_ ?_ _|refine zr_ ?_|refine zk_ ?_ _);exact BK287.out⟩,⟨by (with_reducible repeat first|refine zl_ ?_ _|refine zr_ ?_|refine zk_ ?_ _);exact BK294.out⟩,⟨by repeat (first|(with_reducible first|exact HB.out|apply za_|apply zn_|apply zd_|refine zs_ ?_ GE286.out|refine zs_ ?_ GE287.out|refine zs_ ?_ GE294.out)|exact HB.out)⟩⟩
            case round =>
             clear H'
             try clear c1
             try clear c2
             try clear p2
             try clear q2
             try clear hx2
             try clear c3
             try clear c6
             try clear c6b0
             try clear c6b1
             try clear c6b2
             try clear p6
             try clear c7
             try clear c9
             try clear c10
             try clear c13
             try clear c16
             try clear c18
             try clear c18b0
             try clear c19
             try clear c19b0
             try clear c20
             try clear c20b0
             try clear c22
             try clear c23
             try clear c23b0
             try clear c24
             try clear c24b0
             try clear c27
             try clear c28
             try clear c29
             try clear p29
             try clear q29
             try clear hx29
             try clear c30
             try clear hcz11_0
             try clear hcz17_0
             try clear hcz29_0
             try clear hcz29_1
             try clear hcz29_2
             try clear hcz29_3
             try clear hcz29_4
             try clear hcz29_5
             try clear hcz31_0
             try clear hcz35_0
             try clear hcz35_1
             try clear hcz35_2
             try clear hcz35_3
             try clear hcz35_4
             try clear hcz35_5
             try clear hcz8_0
             try clear hfz11_0
             try clear hfz17_0
             try clear hfz29_0
             try clear hfz29_1
             try clear hfz29_2
             try clear hfz29_3
             try clear hfz29_4
             try clear hfz29_5
             try clear hfz31_0
             try clear hfz35_0
             try clear hfz35_1
             try clear hfz35_2
             try clear hfz35_3
             try clear hfz35_4
             try clear hfz35_5
             try clear hfz8_0
             try clear hx293_0
             try clear hx293_1
             try clear hx293_2
             try clear hx293_3
             try clear hx293_4
             try clear hx293_5
             try clear hx299_0
             try clear hx299_1
             try clear hx299_2
             try clear p2
             try clear p293
             try clear p299
             try clear q293
             try clear q299
             obtain ⟨x8_3,x9_3,x56_3,rfl,rfl,HA,HK3,HO_5,HO_8,BK286,BK287,BK294,HB⟩:=hrel
             cases gk with
             |zero => exact absurd HA.out (by simp [impl_TreeText.l1])
             |succ k3 =>
              have H:=HA.out
              clear HA
              simp only [impl_TreeText.l1] at H
              by_cases c36 : x56_3 < (((rd_T47 l1_0 x25_2).f5).length : Int)
              ·rw [if_pos c36] at H
               have c36b0 : decide (x56_3 < (((rd_T47 l1_0 x25_2).f5).length : Int)) = true:=decide_eq_true c36
               clear c36
               by_cases c37 : 0 ≤ x56_3
               ·rw [if_pos c37] at H
                have c37b0 : decide (0 ≤ x56_3) = true:=decide_eq_true c37
                clear c37
                by_cases c38 : x56_3 < (((rd_T47 l1_0 x25_2).f5).length : Int)
                ·rw [if_pos c38] at H
                 have c38b0 : decide (x56_3 < (((rd_T47 l1_0 x25_2).f5).length : Int)) = true:=decide_eq_true c38
                 clear c38
                 by_cases c39 : 0 ≤ (rd ((rd_T47 l1_0 x25_2).f5) x56_3)
                 ·rw [if_pos c39] at H
                  have c39b0 : decide (0 ≤ (rd ((rd_T47 l1_0 x25_2).f5) x56_3)) = true:=decide_eq_true c39
                  clear c39
                  by_cases c40 : (rd ((rd_T47 l1_0 x25_2).f5) x56_3) < (x5_2.length : Int)
                  ·rw [if_pos c40] at H
                   have c40b0 : decide ((rd ((rd_T47 l1_0 x25_2).f5) x56_3) < (x5_2.length : Int)) = true:=decide_eq_true c40
                   clear c40
                   by_cases c41 : (wrap64 (x9_3 + ((rdOf ByteArray.empty x5_2 (rd ((rd_T47 l1_0 x25_2).f5) x56_3)).size : Int))) > 2000
                   ·rw [if_pos c41] at H
                    have c41b0 : decide (2000 < (wrap64 (x9_3 + ((rdOf ByteArray.empty x5_2 (rd ((rd_T47 l1_0 x25_2).f5) x56_3)).size : Int)))) = true:=decide_eq_true c41
                    clear c41
                    obtain rfl:=Option.some.inj H
                    have p300 : 0 ≤ (x56_3 : Int):=zo_
                    have q300 : x56_3 < (((rd_T47 l1_0 x25_2).f5).length : Int):=zo_
                    obtain ⟨ad300,e300,hx300_0⟩:=Kd.at_int HR293_5.out x56_3 p300 q300
                    cases e300
                    replace hx300_0:=(HB.out.cell (zb_ w _ hx300_0)).trans hx300_0
                    replace p300:=eq_true p300
                    replace q300:=eq_true q300
                    obtain ⟨Ao42,co42,eo42⟩:=Kd.R_slice HO_5.out
                    subst eo42
                    have p301 : 0 ≤ ((rd ((rd_T47 l1_0 x25_2).f5) x56_3) : Int):=zo_
                    have q301 : (rd ((rd_T47 l1_0 x25_2).f5) x56_3) < (x5_2.length : Int):=zo_
                    obtain ⟨ad301,e301,hx301_0⟩:=Kd.at_string (Kd.R_reads' HO_5.out).2.2 (rd ((rd_T47 l1_0 x25_2).f5) x56_3) p301 q301
                    cases e301
                    replace p301:=eq_true p301
                    replace q301:=eq_true q301
                    go_wp2
                    go_ret
                    exact ⟨by first|rfl|(simp [errW_none,errW_some] <;> rfl)|(simp only [← hji25];first|rfl|(simp [errW_none,errW_some] <;> rfl))|(simp [*,errW_none,errW_some] <;> rfl),by repeat (first|(with_reducible first|exact HB.out|apply za_|apply zn_|apply zd_|refine zs_ ?_ GE286.out|refine zs_ ?_ GE287.out|refine zs_ ?_ GE294.out)|exact HB.out)⟩
                   ·rw [if_neg c41] at H
                    have c41b0 : decide (2000 < (wrap64 (x9_3 + ((rdOf ByteArray.empty x5_2 (rd ((rd_T47 l1_0 x25_2).f5) x56_3)).size : Int)))) = false:=decide_eq_false c41
                    clear c41
                    by_cases c43 : x8_3.length < 8796093022208
                    ·rw [if_pos c43] at H
                     have LMc43:=zm_ c43
                     clear c43
                     obtain ⟨y303,hy303⟩ : ∃ y_ : List ByteArray,y_ = (x8_3 ++ [rdOf ByteArray.empty x5_2 (rd ((rd_T47 l1_0 x25_2).f5) x56_3)]):=⟨_,rfl⟩
                     replace H : (impl_TreeText.l1 k3 x5_2 y303 (wrap64 (x9_3 + ((rdOf ByteArray.empty x5_2 (rd ((rd_T47 l1_0 x25_2).f5) x56_3)).size : Int))) l1_0 (l1_0.length : Int) x25_2 ((rd_T47 l1_0 x25_2).f5) (((rd_T47 l1_0 x25_2).f5).length : Int) (wrap64 (x56_3 + 1)) l0_0 ((rd_T47 l1_0 x25_2).f0) ((rd_T47 l1_0 x25_2).f1) ((rd_T47 l1_0 x25_2).f2) ((rd_T47 l1_0 x25_2).f3) ((rd_T47 l1_0 x25_2).f4) ((rd_T47 l1_0 x25_2).f5)) = some r:=by first|(rw [hy303];with_reducible exact H)|(have H2_:=(Option.bind_some _ _).symm.trans H;rw [hy303];with_reducible exact H2_)|(have H2_:=(Option.bind_some _ _).symm.trans H;with_reducible exact H2_)|with_reducible exact H|(rw [hy303];exact H)|exact H
                     have Ny303:=zm_ hy303
                     clear hy303
                     have H':=zm_ H
                     clear H
                     have p300 : 0 ≤ (x56_3 : Int):=zo_
                     have q300 : x56_3 < (((rd_T47 l1_0 x25_2).f5).length : Int):=zo_
                     obtain ⟨ad300,e300,hx300_0⟩:=Kd.at_int HR293_5.out x56_3 p300 q300
                     cases e300
                     replace hx300_0:=(HB.out.cell (zb_ w _ hx300_0)).trans hx300_0
                     replace p300:=eq_true p300
                     replace q300:=eq_true q300
                     obtain ⟨Ao44,co44,eo44⟩:=Kd.R_slice HO_5.out
                     subst eo44
                     have p301 : 0 ≤ ((rd ((rd_T47 l1_0 x25_2).f5) x56_3) : Int):=zo_
                     have q301 : (rd ((rd_T47 l1_0 x25_2).f5) x56_3) < (x5_2.length : Int):=zo_
                     obtain ⟨ad301,e301,hx301_0⟩:=Kd.at_string (Kd.R_reads' HO_5.out).2.2 (rd ((rd_T47 l1_0 x25_2).f5) x56_3) p301 q301
                     cases e301
                     replace p301:=eq_true p301
                     replace q301:=eq_true q301
                     have p302 : 0 ≤ ((rd ((rd_T47 l1_0 x25_2).f5) x56_3) : Int):=zo_
                     have q302 : (rd ((rd_T47 l1_0 x25_2).f5) x56_3) < (x5_2.length : Int):=zo_
                     obtain ⟨ad302,e302,hx302_0⟩:=Kd.at_string (Kd.R_reads' HO_5.out).2.2 (rd ((rd_T47 l1_0 x25_2).f5) x56_3) p302 q302
                     obtain rfl : ad301 = ad302:=(by injection e302)
                     replace p302:=eq_true p302
                     replace q302:=eq_true q302
                     go_wp2_with (first|((with_reducible refine gate_builtin (b:=.append) (xs:=#[.tmp 69,.tmp 74]) rfl ?_);at_builtin;refine Kd.R_append Kd.string (w0:=w) w.heap.size rfl (.tmp 69) (.tmp 74) 44 9 (.string ⟨#[]⟩) 16 rfl Try.underlying44 info9 rfl (by decide) (by omega) u8 x8_3 (rdOf ByteArray.empty x5_2 (rd ((rd_T47 l1_0 x25_2).f5) x56_3)) [.string (rdOf ByteArray.empty x5_2 (rd ((rd_T47 l1_0 x25_2).f5) x56_3))] (fun k_ => some k_ ≠ (.slice (some ad301) x5_2.length co44 : Value).ownBlock) (fun _ => False) rfl rfl ?aP (fun _ hk => hk.elim) ?aF ?aO ?aB ?aS ?aL ?_;(case aP => exact rfl);(case aB => exact (by repeat (first|(with_reducible first|exact HB.out|apply za_|apply zn_|apply zd_|refine zs_ ?_ GE286.out|refine zs_ ?_ GE287.out|refine zs_ ?_ GE294.out)|exact HB.out)));(case aF => exact (fun k_ hk => Kd.fresh' (Kd.R_lt (by (with_reducible repeat (first|apply Kd.R_alloc|apply Kd.R_drewN|apply Kd.R_drew));exact HO_5.out)) k_ hk));(case aO => exact (by (with_reducible repeat (first|apply Kd.R_alloc|apply Kd.R_drewN|apply Kd.R_drew));exact HO_8.out));(case aS => exact (below_size (by repeat (first|(with_reducible first|exact HB.out|apply za_|apply zn_|apply zd_|refine zs_ ?_ GE286.out|refine zs_ ?_ GE287.out|refine zs_ ?_ GE294.out)|exact HB.out))));(case aL => have:=LMc43.out;omega);intro v304 w45 ho hb hg hat;rw [← Ny303.out] at ho;have n0_:=zm_ (Kd.R_after (ok:=(fun _ => True)) (by (with_reducible repeat (first|apply Kd.R_alloc|apply Kd.R_drewN|apply Kd.R_drew));exact Kd.R_mono HO_5.out (fun _ hk => ⟨trivial,hk⟩)) hg hat);have n1_:=zm_ (blk_grown (g:=gb286) (o:=.cells #[.slice (some ad299) l0_0.length c0_0] 33 (0,0)) (by (with_reducible repeat first|refine zl_ ?_ _|refine zr_ ?_|refine zk_ ?_ _);exact BK286.out) hg (Kd.R_ne HO_8.out BK286.out (by decide)));have n2_:=zm_ (blk_grown (g:=gb287) (o:=.cells #[.slice (some ad293) l1_0.length c1_0] 37 (0,0)) (by (with_reducible repeat first|refine zl_ ?_ _|refine zr_ ?_|refine zk_ ?_ _);exact BK287.out) hg (Kd.R_ne HO_8.out BK287.out (by decide)));have n3_:=zm_ (blk_grown (g:=gb294) (o:=.cells #[.int .i64 ((rd_T47 l1_0 x25_2).f0),.int .i64 ((rd_T47 l1_0 x25_2).f1),.slice A293_2 ((rd_T47 l1_0 x25_2).f2).length c293_2,.int .i64 ((rd_T47 l1_0 x25_2).f3),.int .i64 ((rd_T47 l1_0 x25_2).f4),.slice (some ad300) ((rd_T47 l1_0 x25_2).f5).length c293_5] 47 (0,0)) (by (with_reducible repeat first|refine zl_ ?_ _|refine zr_ ?_|refine zk_ ?_ _);exact BK294.out) hg (Kd.R_ne HO_8.out BK294.out (by decide)));have n4_:=zm_ (hb);have n5_:=zm_ (ho);clear HO_5;clear BK286;clear BK287;clear BK294;clear HB;clear HO_8;have HO_5:=n0_;have BK286:=n1_;have BK287:=n2_;have BK294:=n3_;have HB:=n4_;have HO305:=n5_;clear n0_ n1_ n2_ n3_ n4_ n5_;clear ho hb hg hat))
                     go_roundg k3
                     case measure => have:=HJ2.out;have:=HK2.out;have:=HK3.out;omega
                     case rel => exact ⟨(y303),(wrap64 (x9_3 + ((rdOf ByteArray.empty x5_2 (rd ((rd_T47 l1_0 x25_2).f5) x56_3)).size : Int))),(wrap64 (x56_3 + 1)),zV_,zV_,H',⟨by have:=HJ2.out;have:=HK2.out;have:=HK3.out;omega⟩,⟨by (with_reducible repeat (first|apply Kd.R_alloc|apply Kd.R_drewN|apply Kd.R_drew));exact Kd.R_mono HO_5.out (fun _ hk => hk.2)⟩,⟨by (with_reducible repeat (first|apply Kd.R_alloc|apply Kd.R_drewN|apply Kd.R_drew));exact HO305.out⟩,⟨by (with_reducible repeat first|refine zl_ ?_ _|refine zr_ ?_|refine zk_ ?_ _);exact BK286.out⟩,⟨by (with_reducible repeat first|refine zl_ ?_ _|refine zr_ ?_|refine zk_ ?_ _);exact BK287.out⟩,⟨by (with_reducible repeat first|refine zl_ ?_ _|refine zr_ ?_|refine zk_ ?_ _);exact BK294.out⟩,⟨by repeat (first|(with_reducible first|exact HB.out|apply za_|apply zn_|apply zd_|refine zs_ ?_ GE286.out|refine zs_ ?_ GE287.out|refine zs_ ?_ GE294.out)|exact HB.out)⟩⟩
                    ·rw [if_neg c43] at H
                     exact absurd H (by simp)
                  ·rw [if_neg c40] at H
                   exact absurd H (by simp)
                 ·rw [if_neg c39] at H
                  exact absurd H (by simp)
                ·rw [if_neg c38] at H
                 exact absurd H (by simp)
               ·rw [if_neg c37] at H
                exact absurd H (by simp)
              ·rw [if_neg c36] at H
               have c36b0 : decide (x56_3 < (((rd_T47 l1_0 x25_2).f5).length : Int)) = false:=decide_eq_false c36
               clear c36
               by_cases c46 : x9_3 > 2000
               ·rw [if_pos c46] at H
                have c46b0 : decide (2000 < x9_3) = true:=decide_eq_true c46
                clear c46
                obtain rfl:=Option.some.inj H
                go_wp2
                go_ret
                exact ⟨by first|rfl|(simp [errW_none,errW_some] <;> rfl)|(simp only [← hji25];first|rfl|(simp [errW_none,errW_some] <;> rfl))|(simp [*,errW_none,errW_some] <;> rfl),by repeat (first|(with_reducible first|exact HB.out|apply za_|apply zn_|apply zd_|refine zs_ ?_ GE286.out|refine zs_ ?_ GE287.out|refine zs_ ?_ GE294.out)|exact HB.out)⟩
               ·rw [if_neg c46] at H
                have c46b0 : decide (2000 < x9_3) = false:=decide_eq_false c46
                clear c46
                by_cases c47 : 0 ≤ ((rd_T47 l1_0 x25_2).f0)
                ·rw [if_pos c47] at H
                 have c47b0 : decide (0 ≤ ((rd_T47 l1_0 x25_2).f0)) = true:=decide_eq_true c47
                 clear c47
                 by_cases c48 : ((rd_T47 l1_0 x25_2).f0) < (l0_0.length : Int)
                 ·rw [if_pos c48] at H
                  have c48b0 : decide (((rd_T47 l1_0 x25_2).f0) < (l0_0.length : Int)) = true:=decide_eq_true c48
                  clear c48
                  by_cases c49 : ((rd_T51 l0_0 ((rd_T47 l1_0 x25_2).f0)).f0).size + 1 ≤ 9223372036854775807
                  ·rw [if_pos c49] at H
                   have c49b0:=eq_true c49
                   have c49b1 : decide (((rd_T51 l0_0 ((rd_T47 l1_0 x25_2).f0)).f0).size + 1 ≤ 9223372036854775807) = true:=decide_eq_true c49
                   try have c49b2 : (9223372036854775807 < ((rd_T51 l0_0 ((rd_T47 l1_0 x25_2).f0)).f0).size + 1) = False:=eq_false (Nat.not_lt.2 c49)
                   replace H:=Option.bind_eq_some_iff.mp H
                   obtain ⟨⟨t307,t308⟩,A500,H⟩:=H
                   replace H : (if (((rd_T51 l0_0 ((rd_T47 l1_0 x25_2).f0)).f0) ++ (⟨#[40]⟩ : ByteArray)).size + t307.size ≤ 9223372036854775807 then (if ((((rd_T51 l0_0 ((rd_T47 l1_0 x25_2).f0)).f0) ++ (⟨#[40]⟩ : ByteArray)) ++ t307).size + 1 ≤ 9223372036854775807 then (if x5_2.length < 8796093022208 then (impl_TreeText.l0 k3 (x5_2 ++ [((((rd_T51 l0_0 ((rd_T47 l1_0 x25_2).f0)).f0) ++ (⟨#[40]⟩ : ByteArray)) ++ t307) ++ (⟨#[41]⟩ : ByteArray)]) l1_0 (l1_0.length : Int) (wrap64 (x25_2 + 1)) l0_0) else (none)) else (none)) else (none)) = some r:=H
                   have A50:=zm_ A500
                   clear A500
                   by_cases c51 : (((rd_T51 l0_0 ((rd_T47 l1_0 x25_2).f0)).f0) ++ (⟨#[40]⟩ : ByteArray)).size + t307.size ≤ 9223372036854775807
                   ·rw [if_pos c51] at H
                    have c51b0:=eq_true c51
                    have c51b1 : decide ((((rd_T51 l0_0 ((rd_T47 l1_0 x25_2).f0)).f0) ++ (⟨#[40]⟩ : ByteArray)).size + t307.size ≤ 9223372036854775807) = true:=decide_eq_true c51
                    try have c51b2 : (9223372036854775807 < (((rd_T51 l0_0 ((rd_T47 l1_0 x25_2).f0)).f0) ++ (⟨#[40]⟩ : ByteArray)).size + t307.size) = False:=eq_false (Nat.not_lt.2 c51)
                    try have c51b3 : (9223372036854775807 < ((rd_T51 l0_0 ((rd_T47 l1_0 x25_2).f0)).f0).size + 1 + t307.size) = False:=eq_false (Nat.not_lt.2 (by have h_:=c51;simp only [ByteArray.size_append] at h_;exact h_))
                    by_cases c52 : ((((rd_T51 l0_0 ((rd_T47 l1_0 x25_2).f0)).f0) ++ (⟨#[40]⟩ : ByteArray)) ++ t307).size + 1 ≤ 9223372036854775807
                    ·rw [if_pos c52] at H
                     have c52b0:=eq_true c52
                     have c52b1 : decide (((((rd_T51 l0_0 ((rd_T47 l1_0 x25_2).f0)).f0) ++ (⟨#[40]⟩ : ByteArray)) ++ t307).size + 1 ≤ 9223372036854775807) = true:=decide_eq_true c52
                     try have c52b2 : (9223372036854775807 < ((((rd_T51 l0_0 ((rd_T47 l1_0 x25_2).f0)).f0) ++ (⟨#[40]⟩ : ByteArray)) ++ t307).size + 1) = False:=eq_false (Nat.not_lt.2 c52)
                     try have c52b3 : (9223372036854775807 < (((rd_T51 l0_0 ((rd_T47 l1_0 x25_2).f0)).f0).size + 1) + t307.size + 1) = False:=eq_false (Nat.not_lt.2 (by have h_:=c52;simp only [ByteArray.size_append] at h_;exact h_))
                     by_cases c53 : x5_2.length < 8796093022208
                     ·rw [if_pos c53] at H
                      have LMc53:=zm_ c53
                      clear c53
                      obtain ⟨y309,hy309⟩ : ∃ y_ : List ByteArray,y_ = (x5_2 ++ [((((rd_T51 l0_0 ((rd_T47 l1_0 x25_2).f0)).f0) ++ (⟨#[40]⟩ : ByteArray)) ++ t307) ++ (⟨#[41]⟩ : ByteArray)]):=⟨_,rfl⟩
                      replace H : (impl_TreeText.l0 k3 y309 l1_0 (l1_0.length : Int) (wrap64 (x25_2 + 1)) l0_0) = some r:=by first|(rw [hy309];with_reducible exact H)|(have H2_:=(Option.bind_some _ _).symm.trans H;rw [hy309];with_reducible exact H2_)|(have H2_:=(Option.bind_some _ _).symm.trans H;with_reducible exact H2_)|with_reducible exact H|(rw [hy309];exact H)|exact H
                      have Ny309:=zm_ hy309
                      clear hy309
                      have H':=zm_ H
                      clear H
                      try go_wp2
                      have n0_:=zm_ (Kd.R_drew HO_5.out)
                      have n1_:=zm_ (Kd.R_drew HO_8.out)
                      have n2_:=zm_ (zr_ BK286.out)
                      have n3_:=zm_ (zr_ BK287.out)
                      have n4_:=zm_ (zr_ BK294.out)
                      have n5_:=zm_ (zd_ HB.out)
                      clear HO_5
                      clear HO_8
                      clear BK286
                      clear BK287
                      clear BK294
                      clear HB
                      have HO_5:=n0_
                      have HO_8:=n1_
                      have BK286:=n2_
                      have BK287:=n3_
                      have BK294:=n4_
                      have HB:=n5_
                      clear n0_ n1_ n2_ n3_ n4_ n5_
                      have p306 : 0 ≤ (((rd_T47 l1_0 x25_2).f0) : Int):=zo_
                      have q306 : ((rd_T47 l1_0 x25_2).f0) < (l0_0.length : Int):=zo_
                      obtain ⟨ad306,A306_1,c306_1,A306_2,c306_2,e306,hx306_0,hx306_1,hx306_2,hl306_1,hi306_1,hl306_2,hi306_2⟩:=at_T51 HR0_0.out ((rd_T47 l1_0 x25_2).f0) p306 q306
                      have hw306_2:=hx306_2
                      have hw306_1:=hx306_1
                      have hw306_0:=hx306_0
                      obtain rfl : ad299 = ad306:=(by injection e306)
                      replace hx306_0:=(HB.out.cell (zb_ w _ hx306_0)).trans hx306_0
                      replace hx306_1:=(HB.out.cell (zb_ w _ hx306_1)).trans hx306_1
                      replace hx306_2:=(HB.out.cell (zb_ w _ hx306_2)).trans hx306_2
                      have HR306_1:=zm_ hi306_1
                      have HC306_1:=zm_ hl306_1
                      clear hi306_1 hl306_1
                      have HR306_2:=zm_ hi306_2
                      have HC306_2:=zm_ hl306_2
                      clear hi306_2 hl306_2
                      replace p306:=eq_true p306
                      replace q306:=eq_true q306
                      obtain ⟨Ao55,co55,eo55⟩:=Kd.R_slice HO_8.out
                      (first|subst eo55|(injection eo55 with f1_ f2_ f3_;have f4_:=f1_.symm;have f5_:=f3_.symm;clear f1_ f2_ f3_;subst f4_;subst f5_))
                      refine start_ (n:=16) (S:=fun w' => w'.cell? ⟨gb286,0,none⟩ = some (.slice (some ad299) l0_0.length c0_0) ∧ w'.cell? ⟨gb294,0,none⟩ = some (.int .i64 ((rd_T47 l1_0 x25_2).f0)) ∧ w'.cell? ⟨gb294,1,none⟩ = some (.int .i64 ((rd_T47 l1_0 x25_2).f1)) ∧ w'.cell? ⟨gb294,2,none⟩ = some (.slice A293_2 ((rd_T47 l1_0 x25_2).f2).length c293_2) ∧ w'.cell? ⟨gb294,3,none⟩ = some (.int .i64 ((rd_T47 l1_0 x25_2).f3)) ∧ w'.cell? ⟨gb294,4,none⟩ = some (.int .i64 ((rd_T47 l1_0 x25_2).f4)) ∧ w'.cell? ⟨gb294,5,none⟩ = some (.slice A293_5 ((rd_T47 l1_0 x25_2).f5).length c293_5) ∧ w'.cell? (ad299.add ((((rd_T47 l1_0 x25_2).f0)).toNat * 3)) = some (.string ((rd_T51 l0_0 ((rd_T47 l1_0 x25_2).f0)).f0)) ∧ w'.cell? ⟨(ad299.add ((((rd_T47 l1_0 x25_2).f0)).toNat * 3)).block,(ad299.add ((((rd_T47 l1_0 x25_2).f0)).toNat * 3)).off + 1,none⟩ = some (.slice A306_1 ((rd_T51 l0_0 ((rd_T47 l1_0 x25_2).f0)).f1).length c306_1) ∧ w'.cell? ⟨(ad299.add ((((rd_T47 l1_0 x25_2).f0)).toNat * 3)).block,(ad299.add ((((rd_T47 l1_0 x25_2).f0)).toNat * 3)).off + 2,none⟩ = some (.slice A306_2 ((rd_T51 l0_0 ((rd_T47 l1_0 x25_2).f0)).f2).length c306_2)) (ds:=[]) #[false,false,false,false,false,false,false,false,false,false,false,false,false,false,false,false] (by kernel_rfl) rfl rfl ⟨(zc_ BK286.out 0).trans rfl,(zc_ BK294.out 0).trans rfl,(zc_ BK294.out 1).trans rfl,(zc_ BK294.out 2).trans rfl,(zc_ BK294.out 3).trans rfl,(zc_ BK294.out 4).trans rfl,(zc_ BK294.out 5).trans rfl,((HB.out.cell (zb_ w _ hw306_0)).trans hw306_0),((HB.out.cell (zb_ w _ hw306_1)).trans hw306_1),((HB.out.cell (zb_ w _ hw306_2)).trans hw306_2)⟩ (fun hHeld => ?_);refine with_tabW impl_TreeText.tab21 impl_TreeText.bits21 (fun HT_ HW_ => ?_)
                      generalize wr.drew = w54 at HO_5 HO_8 BK286 BK287 BK294 HB HR306_1 HR306_2 hx306_0 hx306_1 hx306_2 hHeld ⊢
                      refine pure_ (i:=0) (N:=some 79) (v:=?_) (a':=?_) #[true,false,false,false,false,false,false,false,false,false,false,false,false,false,false,false] rfl rfl (any_of HT_.out (by kernel_rfl)) (fun _ _ _ h => h) (Or.inl ⟨by rfl,?_⟩) ?_ ?_
                      rotate_left
                      ·intro w'
                       go_simp
                       with_reducible rfl
                      rotate_left
                      ·simp only [Act.put,List.setIfInBounds_toArray,List.set_cons_zero,List.set_cons_succ,i64_w,i32_w,IntKind.wrap_u8]
                       rfl
                      refine pure_ (i:=1) (N:=some 80) (v:=?_) (a':=?_) #[true,true,false,false,false,false,false,false,false,false,false,false,false,false,false,false] rfl rfl (any_of HT_.out (by kernel_rfl)) (fun _ _ _ h => h) (Or.inl ⟨by rfl,?_⟩) ?_ ?_
                      rotate_left
                      ·intro w'
                       go_simp
                       with_reducible rfl
                      rotate_left
                      ·simp only [Act.put,List.setIfInBounds_toArray,List.set_cons_zero,List.set_cons_succ,i64_w,i32_w,IntKind.wrap_u8]
                       rfl
                      refine pure_ (i:=3) (N:=some 82) (v:=?_) (a':=?_) #[true,true,false,true,false,false,false,false,false,false,false,false,false,false,false,false] rfl rfl (any_of HT_.out (by kernel_rfl)) (fun _ _ _ h => h) (Or.inl ⟨by rfl,?_⟩) ?_ ?_
                      rotate_left
                      ·intro w'
                       go_simp
                       with_reducible rfl
                      rotate_left
                      ·simp only [Act.put,List.setIfInBounds_toArray,List.set_cons_zero,List.set_cons_succ,i64_w,i32_w,IntKind.wrap_u8]
                       rfl
                      refine pure_ (i:=9) (N:=some 88) (v:=?_) (a':=?_) #[true,true,false,true,false,false,false,false,false,true,false,false,false,false,false,false] rfl rfl (any_of HT_.out (by kernel_rfl)) (fun _ _ _ h => h) (Or.inl ⟨by rfl,?_⟩) ?_ ?_
                      rotate_left
                      ·intro w'
                       go_simp
                       with_reducible rfl
                      rotate_left
                      ·simp only [Act.put,List.setIfInBounds_toArray,List.set_cons_zero,List.set_cons_succ,i64_w,i32_w,IntKind.wrap_u8]
                       rfl
                      refine take_ (i:=2) (N:=some 81) (v:=?_) (a':=?_) #[true,true,true,true,false,false,false,false,false,true,false,false,false,false,false,false] rfl rfl (take_ofW HT_.out HW_.out (by kernel_rfl)) (fun _ _ _ h => h) (Or.inl ⟨by rfl,?_⟩) hHeld ?_ ?_
                      rotate_left
                      ·rintro w' ⟨s0,s1,s2,s3,s4,s5,s6,s7,s8,s9⟩
                       go_simp
                       with_reducible rfl
                      rotate_left
                      ·simp only [Act.put,List.setIfInBounds_toArray,List.set_cons_zero,List.set_cons_succ,i64_w,i32_w,IntKind.wrap_u8]
                       rfl
                      refine take_ (i:=4) (N:=some 83) (v:=?_) (a':=?_) #[true,true,true,true,true,false,false,false,false,true,false,false,false,false,false,false] rfl rfl (take_ofW HT_.out HW_.out (by kernel_rfl)) (fun _ _ _ h => h) (Or.inl ⟨by rfl,?_⟩) hHeld ?_ ?_
                      rotate_left
                      ·rintro w' ⟨s0,s1,s2,s3,s4,s5,s6,s7,s8,s9⟩
                       go_simp
                       with_reducible rfl
                      rotate_left
                      ·simp only [Act.put,List.setIfInBounds_toArray,List.set_cons_zero,List.set_cons_succ,i64_w,i32_w,IntKind.wrap_u8]
                       rfl
                      refine pure_ (i:=5) (N:=some 84) (v:=?_) (a':=?_) #[true,true,true,true,true,true,false,false,false,true,false,false,false,false,false,false] rfl rfl (any_of HT_.out (by kernel_rfl)) (fun _ _ _ h => h) (Or.inl ⟨by rfl,?_⟩) ?_ ?_
                      rotate_left
                      ·intro w'
                       go_simp
                       with_reducible rfl
                      rotate_left
                      ·simp only [Act.put,List.setIfInBounds_toArray,List.set_cons_zero,List.set_cons_succ,i64_w,i32_w,IntKind.wrap_u8]
                       rfl
                      refine pure_ (i:=6) (N:=some 85) (v:=?_) (a':=?_) #[true,true,true,true,true,true,true,false,false,true,false,false,false,false,false,false] rfl rfl (any_of HT_.out (by kernel_rfl)) (fun _ _ _ h => h) (Or.inl ⟨by rfl,?_⟩) ?_ ?_
                      rotate_left
                      ·intro w'
                       go_simp
                       with_reducible rfl
                      rotate_left
                      ·simp only [Act.put,List.setIfInBounds_toArray,List.set_cons_zero,List.set_cons_succ,i64_w,i32_w,IntKind.wrap_u8]
                       rfl
                      refine take_ (i:=7) (N:=some 86) (v:=?_) (a':=?_) #[true,true,true,true,true,true,true,true,false,true,false,false,false,false,false,false] rfl rfl (take_ofW HT_.out HW_.out (by kernel_rfl)) (fun _ _ _ h => h) (Or.inl ⟨by rfl,?_⟩) hHeld ?_ ?_
                      rotate_left
                      ·rintro w' ⟨s0,s1,s2,s3,s4,s5,s6,s7,s8,s9⟩
                       go_simp
                       with_reducible rfl
                      rotate_left
                      ·simp only [Act.put,List.setIfInBounds_toArray,List.set_cons_zero,List.set_cons_succ,i64_w,i32_w,IntKind.wrap_u8]
                       rfl
                      refine pure_ (i:=8) (N:=some 87) (v:=?_) (a':=?_) #[true,true,true,true,true,true,true,true,true,true,false,false,false,false,false,false] rfl rfl (any_of HT_.out (by kernel_rfl)) (fun _ _ _ h => h) (Or.inl ⟨by rfl,?_⟩) ?_ ?_
                      rotate_left
                      ·intro w'
                       go_simp
                       with_reducible rfl
                      rotate_left
                      ·simp only [Act.put,List.setIfInBounds_toArray,List.set_cons_zero,List.set_cons_succ,i64_w,i32_w,IntKind.wrap_u8]
                       rfl
                      refine one_ (i:=10) (N:=some 89) #[true,true,true,true,true,true,true,true,true,true,true,false,false,false,false,false] rfl rfl (one_of HT_.out (by kernel_rfl)) (by decide) (fun K hK => ?_)
                      refine goes_ Try.func19 (by kernel_rfl) rfl #[.slice Ao55 x8_3.length co55,.string (⟨#[32]⟩ : ByteArray)] (by rfl) rfl rfl zq_ ?_
                      with_reducible refine (strings_Join.calls (fun k_ => some k_ = (.slice Ao55 x8_3.length co55 : Value).ownBlock) (.slice Ao55 x8_3.length co55) x8_3 (⟨#[32]⟩ : ByteArray) t307 t308 w _ ?side1 ?side2 A50.out).mono ?_
                      (case side1 => repeat (first|(with_reducible first|exact HB.out|apply za_|apply zn_|apply zd_|refine zs_ ?_ GE286.out|refine zs_ ?_ GE287.out|refine zs_ ?_ GE294.out)|exact HB.out))
                      (case side2 => exact Kd.R_tight rfl HO_8.out)
                      rintro e w56 ⟨rfl,hy0,hb,hkp⟩
                      refine ⟨_,rfl,?_⟩
                      have n0_:=zm_ (Kd.R_mono (ok':=fun k_ => some k_ ≠ (.slice Ao55 x8_3.length co55 : Value).ownBlock) (Kd.R_keptB (HO_5.out) hkp (fun k_ hk_ hs_ => (hk_) hs_)) (fun k_ hk_ => hk_.1))
                      have n1_:=zm_ (Kd.R_reok rfl hy0 (fun k_ e_ => HO_8.out.1 k_ e_))
                      have n2_:=zm_ (blk_kept (by (with_reducible repeat first|refine zl_ ?_ _|refine zr_ ?_|refine zk_ ?_ _);exact BK286.out) hkp (fun hs_ => (fun e_ => (Kd.R_ne HO_8.out BK286.out (by decide)) e_) hs_))
                      have n3_:=zm_ (blk_kept (by (with_reducible repeat first|refine zl_ ?_ _|refine zr_ ?_|refine zk_ ?_ _);exact BK287.out) hkp (fun hs_ => (fun e_ => (Kd.R_ne HO_8.out BK287.out (by decide)) e_) hs_))
                      have n4_:=zm_ (blk_kept (by (with_reducible repeat first|refine zl_ ?_ _|refine zr_ ?_|refine zk_ ?_ _);exact BK294.out) hkp (fun hs_ => (fun e_ => (Kd.R_ne HO_8.out BK294.out (by decide)) e_) hs_))
                      have n5_:=zm_ (hb)
                      clear HO_5
                      clear HO_8
                      clear BK286
                      clear BK287
                      clear BK294
                      clear HB
                      have HO_5:=n0_
                      have HO_8:=n1_
                      have BK286:=n2_
                      have BK287:=n3_
                      have BK294:=n4_
                      have HB:=n5_
                      clear n0_ n1_ n2_ n3_ n4_ n5_
                      (try clear hb)
                      (try clear hkp)
                      (try clear hy0)
                      refine hK.out _ _ ⟨(zc_ BK286.out 0).trans rfl,(zc_ BK294.out 0).trans rfl,(zc_ BK294.out 1).trans rfl,(zc_ BK294.out 2).trans rfl,(zc_ BK294.out 3).trans rfl,(zc_ BK294.out 4).trans rfl,(zc_ BK294.out 5).trans rfl,((HB.out.cell (zb_ w _ hw306_0)).trans hw306_0),((HB.out.cell (zb_ w _ hw306_1)).trans hw306_1),((HB.out.cell (zb_ w _ hw306_2)).trans hw306_2)⟩ (fun hHeld => ?_)
                      clear hK K
                      refine norm_ (a':=?_) ?_ ?_
                      rotate_left
                      ·show Act.put _ (some 89) _ = _
                       simp only [Act.put,List.setIfInBounds_toArray,List.set_cons_zero,List.set_cons_succ,i64_w,i32_w,IntKind.wrap_u8]
                       rfl
                      refine pure_ (i:=11) (N:=some 90) (v:=?_) (a':=?_) #[true,true,true,true,true,true,true,true,true,true,true,true,false,false,false,false] rfl rfl (any_of HT_.out (by kernel_rfl)) (fun _ _ _ h => h) (Or.inl ⟨by rfl,?_⟩) ?_ ?_
                      rotate_left
                      ·intro w'
                       go_simp
                       with_reducible rfl
                      rotate_left
                      ·simp only [Act.put,List.setIfInBounds_toArray,List.set_cons_zero,List.set_cons_succ,i64_w,i32_w,IntKind.wrap_u8]
                       rfl
                      refine pure_ (i:=12) (N:=some 91) (v:=?_) (a':=?_) #[true,true,true,true,true,true,true,true,true,true,true,true,true,false,false,false] rfl rfl (any_of HT_.out (by kernel_rfl)) (fun _ _ _ h => h) (Or.inl ⟨by rfl,?_⟩) ?_ ?_
                      rotate_left
                      ·intro w'
                       go_simp
                       with_reducible rfl
                      rotate_left
                      ·simp only [Act.put,List.setIfInBounds_toArray,List.set_cons_zero,List.set_cons_succ,i64_w,i32_w,IntKind.wrap_u8]
                       rfl
                      refine one_ (i:=13) (N:=some 92) #[true,true,true,true,true,true,true,true,true,true,true,true,true,true,false,false] rfl rfl (one_of HT_.out (by kernel_rfl)) (by decide) (fun K hK => ?_)
                      refine value_ (w1:=?_) (v:=?_) (by rfl) rfl ?_ ?_
                      rotate_left 2
                      ·go_simp
                       constructor
                       ·rfl
                       ·rfl
                      refine hK.out _ _ ⟨(zc_ (zk_ BK286.out _) 0).trans rfl,(zc_ (zk_ BK294.out _) 0).trans rfl,(zc_ (zk_ BK294.out _) 1).trans rfl,(zc_ (zk_ BK294.out _) 2).trans rfl,(zc_ (zk_ BK294.out _) 3).trans rfl,(zc_ (zk_ BK294.out _) 4).trans rfl,(zc_ (zk_ BK294.out _) 5).trans rfl,(World.cell?_alloc_lt _ _ _ (zb_ _ _ (((HB.out.cell (zb_ w _ hw306_0)).trans hw306_0)))).trans (((HB.out.cell (zb_ w _ hw306_0)).trans hw306_0)),(World.cell?_alloc_lt _ _ _ (zb_ _ _ (((HB.out.cell (zb_ w _ hw306_1)).trans hw306_1)))).trans (((HB.out.cell (zb_ w _ hw306_1)).trans hw306_1)),(World.cell?_alloc_lt _ _ _ (zb_ _ _ (((HB.out.cell (zb_ w _ hw306_2)).trans hw306_2)))).trans (((HB.out.cell (zb_ w _ hw306_2)).trans hw306_2))⟩ (fun hHeld => ?_)
                      clear hK K
                      refine norm_ (a':=?_) ?_ ?_
                      rotate_left
                      ·show Act.put _ (some 92) _ = _
                       simp only [Act.put,List.setIfInBounds_toArray,List.set_cons_zero,List.set_cons_succ,i64_w,i32_w,IntKind.wrap_u8]
                       rfl
                      refine one_ (i:=14) (N:=some 93) #[true,true,true,true,true,true,true,true,true,true,true,true,true,true,true,false] rfl rfl (one_of HT_.out (by kernel_rfl)) (by decide) (fun K hK => ?_)
                      refine Kd.R_append_step Kd.string (w0:=w) w.heap.size (by rfl) (.tmp 79) (.tmp 92) 44 9 (.string ⟨#[]⟩) 16 rfl Try.underlying44 info9 rfl (by decide) (by omega) u5 x5_2 (((((rd_T51 l0_0 ((rd_T47 l1_0 x25_2).f0)).f0) ++ (⟨#[40]⟩ : ByteArray)) ++ t307) ++ (⟨#[41]⟩ : ByteArray)) [.string (((((rd_T51 l0_0 ((rd_T47 l1_0 x25_2).f0)).f0) ++ (⟨#[40]⟩ : ByteArray)) ++ t307) ++ (⟨#[41]⟩ : ByteArray))] (fun k_ => some k_ ≠ (.slice Ao55 x8_3.length co55 : Value).ownBlock) (fun _ => False) rfl rfl ?aP (fun _ hk => hk.elim) ?aF ?aO ?aB ?aS ?aL ?_
                      (case aP => exact rfl)
                      (case aB => exact (by repeat (first|(with_reducible first|exact HB.out|apply za_|apply zn_|apply zd_|refine zs_ ?_ GE286.out|refine zs_ ?_ GE287.out|refine zs_ ?_ GE294.out)|exact HB.out)))
                      (case aF => exact (fun k_ hk => Kd.fresh' (Kd.R_lt (by (with_reducible repeat (first|apply Kd.R_alloc|apply Kd.R_drewN|apply Kd.R_drew));exact HO_8.out)) k_ hk))
                      (case aO => exact (by (with_reducible repeat (first|apply Kd.R_alloc|apply Kd.R_drewN|apply Kd.R_drew));exact HO_5.out))
                      (case aS => exact (below_size (by repeat (first|(with_reducible first|exact HB.out|apply za_|apply zn_|apply zd_|refine zs_ ?_ GE286.out|refine zs_ ?_ GE287.out|refine zs_ ?_ GE294.out)|exact HB.out))))
                      (case aL => have:=LMc53.out;omega)
                      intro v310 w57 ho hb hg hat
                      rw [← Ny309.out] at ho
                      have n0_:=zm_ (Kd.R_after (ok:=(fun _ => True)) (by (with_reducible repeat (first|apply Kd.R_alloc|apply Kd.R_drewN|apply Kd.R_drew));exact Kd.R_mono HO_8.out (fun _ hk => ⟨trivial,hk⟩)) hg hat)
                      have n1_:=zm_ (blk_grown (g:=gb286) (o:=.cells #[.slice (some ad299) l0_0.length c0_0] 33 (0,0)) (by (with_reducible repeat first|refine zl_ ?_ _|refine zr_ ?_|refine zk_ ?_ _);exact BK286.out) hg (Kd.R_ne HO_5.out BK286.out (by decide)))
                      have n2_:=zm_ (blk_grown (g:=gb287) (o:=.cells #[.slice (some ad293) l1_0.length c1_0] 37 (0,0)) (by (with_reducible repeat first|refine zl_ ?_ _|refine zr_ ?_|refine zk_ ?_ _);exact BK287.out) hg (Kd.R_ne HO_5.out BK287.out (by decide)))
                      have n3_:=zm_ (blk_grown (g:=gb294) (o:=.cells #[.int .i64 ((rd_T47 l1_0 x25_2).f0),.int .i64 ((rd_T47 l1_0 x25_2).f1),.slice A293_2 ((rd_T47 l1_0 x25_2).f2).length c293_2,.int .i64 ((rd_T47 l1_0 x25_2).f3),.int .i64 ((rd_T47 l1_0 x25_2).f4),.slice A293_5 ((rd_T47 l1_0 x25_2).f5).length c293_5] 47 (0,0)) (by (with_reducible repeat first|refine zl_ ?_ _|refine zr_ ?_|refine zk_ ?_ _);exact BK294.out) hg (Kd.R_ne HO_5.out BK294.out (by decide)))
                      have n4_:=zm_ (hb)
                      have n5_:=zm_ (ho)
                      clear HO_8
                      clear BK286
                      clear BK287
                      clear BK294
                      clear HB
                      clear HO_5
                      have HO_8:=n0_
                      have BK286:=n1_
                      have BK287:=n2_
                      have BK294:=n3_
                      have HB:=n4_
                      have HO311:=n5_
                      clear n0_ n1_ n2_ n3_ n4_ n5_
                      clear ho hb hg hat
                      refine hK.out _ _ ⟨(zc_ BK286.out 0).trans rfl,(zc_ BK294.out 0).trans rfl,(zc_ BK294.out 1).trans rfl,(zc_ BK294.out 2).trans rfl,(zc_ BK294.out 3).trans rfl,(zc_ BK294.out 4).trans rfl,(zc_ BK294.out 5).trans rfl,((HB.out.cell (zb_ w _ hw306_0)).trans hw306_0),((HB.out.cell (zb_ w _ hw306_1)).trans hw306_1),((HB.out.cell (zb_ w _ hw306_2)).trans hw306_2)⟩ (fun hHeld => ?_)
                      clear hK K
                      refine norm_ (a':=?_) ?_ ?_
                      rotate_left
                      ·show Act.put _ (some 93) _ = _
                       simp only [Act.put,List.setIfInBounds_toArray,List.set_cons_zero,List.set_cons_succ,i64_w,i32_w,IntKind.wrap_u8]
                       rfl
                      refine pure_ (i:=15) (N:=some 5) (v:=?_) (a':=?_) #[true,true,true,true,true,true,true,true,true,true,true,true,true,true,true,true] rfl rfl (any_of HT_.out (by kernel_rfl)) (fun _ _ _ h => h) (Or.inl ⟨by rfl,?_⟩) ?_ ?_
                      rotate_left
                      ·intro w'
                       go_simp
                       with_reducible rfl
                      rotate_left
                      ·simp only [Act.put,List.setIfInBounds_toArray,List.set_cons_zero,List.set_cons_succ,i64_w,i32_w,IntKind.wrap_u8]
                       rfl
                      refine done_ (done_of HT_.out (by kernel_rfl)) ?_
                      try go_wp2
                      go_roundg k3
                      case measure => have:=HJ2.out;have:=HK2.out;have:=HK3.out;omega
                      case rel => exact ⟨(y309),(wrap64 (x25_2 + 1)),zV_,H',⟨by have:=HJ2.out;have:=HK2.out;have:=HK3.out;omega⟩,⟨by (with_reducible repeat (first|apply Kd.R_alloc|apply Kd.R_drewN|apply Kd.R_drew));exact Kd.R_mono HO311.out (fun _ hk => trivial)⟩,⟨by (with_reducible repeat first|refine zl_ ?_ _|refine zr_ ?_|refine zk_ ?_ _);exact BK286.out⟩,⟨by (with_reducible repeat first|refine zl_ ?_ _|refine zr_ ?_|refine zk_ ?_ _);exact BK287.out⟩,⟨by repeat (first|(with_reducible first|exact HB.out|apply za_|apply zn_|apply zd_|refine zs_ ?_ GE286.out|refine zs_ ?_ GE287.out|refine zs_ ?_ GE294.out)|exact HB.out)⟩⟩
                     ·rw [if_neg c53] at H
                      exact absurd H (by simp)
                    ·rw [if_neg c52] at H
                     exact absurd H (by simp)
                   ·rw [if_neg c51] at H
                    exact absurd H (by simp)
                  ·rw [if_neg c49] at H
                   exact absurd H (by simp)
                 ·rw [if_neg c48] at H
                  exact absurd H (by simp)
                ·rw [if_neg c47] at H
                 exact absurd H (by simp)
           ·rw [if_neg c24] at H
            exact absurd H (by simp)
          ·rw [if_neg c23] at H
           exact absurd H (by simp)
         ·replace c22:=Bool.eq_false_iff.mpr c22
          subst c22
          have H1 : (some (⟨#[]⟩ : ByteArray)) = some r:=by rw [if_neg (show ¬ (false = true) by decide)] at H;exact H
          clear H
          have H:=H1
          clear H1
          obtain rfl:=Option.some.inj H
          have p293 : 0 ≤ (x25_2 : Int):=zo_
          have q293 : x25_2 < (l1_0.length : Int):=zo_
          obtain ⟨ad293,A293_2,c293_2,A293_5,c293_5,e293,hx293_0,hx293_1,hx293_2,hx293_3,hx293_4,hx293_5,hl293_2,hi293_2,hl293_5,hi293_5⟩:=at_T47 HR1_0.out x25_2 p293 q293
          cases e293
          replace hx293_0:=(HB.out.cell (zb_ w _ hx293_0)).trans hx293_0
          replace hx293_1:=(HB.out.cell (zb_ w _ hx293_1)).trans hx293_1
          replace hx293_2:=(HB.out.cell (zb_ w _ hx293_2)).trans hx293_2
          replace hx293_3:=(HB.out.cell (zb_ w _ hx293_3)).trans hx293_3
          replace hx293_4:=(HB.out.cell (zb_ w _ hx293_4)).trans hx293_4
          replace hx293_5:=(HB.out.cell (zb_ w _ hx293_5)).trans hx293_5
          have HR293_2:=zm_ hi293_2
          have HC293_2:=zm_ hl293_2
          clear hi293_2 hl293_2
          have HR293_5:=zm_ hi293_5
          have HC293_5:=zm_ hl293_5
          clear hi293_5 hl293_5
          replace p293:=eq_true p293
          replace q293:=eq_true q293
          go_wp2_with (first|((with_reducible refine gate_dst (N:=7) rfl ?_);refine box_event ?hg (N:=7) ?hd (cs:=#[.int .i64 0,.int .i64 0,.slice none 0 0,.int .i64 0,.int .i64 0,.slice none 0 0]) (t:=47) ?hr ?_;(case hd => rfl);(case hg => rfl);(case hr => first|(go_simp;done)|(go_simp;rfl));intro gb294 hg w58 hbox hb;have n0_:=zm_ (Kd.R_below (by (with_reducible repeat (first|apply Kd.R_alloc|apply Kd.R_drewN|apply Kd.R_drew));exact HO_5.out) hb);have n1_:=zm_ (blk_below (g:=gb286) (o:=.cells #[.slice A0_0 l0_0.length c0_0] 33 (0,0)) (by (with_reducible repeat first|refine zl_ ?_ _|refine zr_ ?_|refine zk_ ?_ _);exact BK286.out) hb);have n2_:=zm_ (blk_below (g:=gb287) (o:=.cells #[.slice (some ad293) l1_0.length c1_0] 37 (0,0)) (by (with_reducible repeat first|refine zl_ ?_ _|refine zr_ ?_|refine zk_ ?_ _);exact BK287.out) hb);have n3_:=zm_ (below_step (by repeat (first|(with_reducible first|exact HB.out|apply za_|apply zn_|apply zd_|refine zs_ ?_ GE286.out|refine zs_ ?_ GE287.out)|exact HB.out)) hb);have n4_:=zm_ (hbox);have n5_:=zm_ ((by rw [hg];exact (below_size (by repeat (first|(with_reducible first|exact HB.out|apply za_|apply zn_|apply zd_|refine zs_ ?_ GE286.out|refine zs_ ?_ GE287.out)|exact HB.out))) : w.heap.size ≤ gb294));have n6_:=zm_ ((by rw [hg];exact (below_size (by repeat (first|(with_reducible first|exact HB.out|apply za_|apply zn_|apply zd_|refine zs_ ?_ GE286.out|refine zs_ ?_ GE287.out)|exact HB.out))) : w.heap.size ≤ gb294));have n7_:=zm_ ((by rw [hg];exact Nat.ne_of_lt (blk_lt (g:=gb286) (o:=.cells #[.slice A0_0 l0_0.length c0_0] 33 (0,0)) (by (with_reducible repeat first|refine zl_ ?_ _|refine zr_ ?_|refine zk_ ?_ _);exact BK286.out)) : gb286 ≠ gb294));have n8_:=zm_ ((by rw [hg];exact Nat.ne_of_gt (blk_lt (g:=gb286) (o:=.cells #[.slice A0_0 l0_0.length c0_0] 33 (0,0)) (by (with_reducible repeat first|refine zl_ ?_ _|refine zr_ ?_|refine zk_ ?_ _);exact BK286.out)) : gb294 ≠ gb286));have n9_:=zm_ ((by rw [hg];exact Nat.ne_of_lt (blk_lt (g:=gb287) (o:=.cells #[.slice (some ad293) l1_0.length c1_0] 37 (0,0)) (by (with_reducible repeat first|refine zl_ ?_ _|refine zr_ ?_|refine zk_ ?_ _);exact BK287.out)) : gb287 ≠ gb294));have n10_:=zm_ ((by rw [hg];exact Nat.ne_of_gt (blk_lt (g:=gb287) (o:=.cells #[.slice (some ad293) l1_0.length c1_0] 37 (0,0)) (by (with_reducible repeat first|refine zl_ ?_ _|refine zr_ ?_|refine zk_ ?_ _);exact BK287.out)) : gb294 ≠ gb287));clear HO_5;clear BK286;clear BK287;clear HB;have HO_5:=n0_;have BK286:=n1_;have BK287:=n2_;have HB:=n3_;have BK294:=n4_;have GW294:=n5_;have GE294:=n6_;have NB286_294:=n7_;have NB294_286:=n8_;have NB287_294:=n9_;have NB294_287:=n10_;clear n0_ n1_ n2_ n3_ n4_ n5_ n6_ n7_ n8_ n9_ n10_;clear hb hbox hg;have hnb59:=NB294_286.out;have hnc59:=NB286_294.out;have hnb60:=NB294_287.out;have hnc60:=NB287_294.out;have hcz61_0 : w58.cell? ⟨gb294,0,none⟩ = some (.int .i64 0):=(zc_ BK294.out 0).trans rfl;have hcz61_1 : w58.cell? ⟨gb294,1,none⟩ = some (.int .i64 0):=(zc_ BK294.out 1).trans rfl;have hcz61_2 : w58.cell? ⟨gb294,2,none⟩ = some (.slice none 0 0):=(zc_ BK294.out 2).trans rfl;have hcz61_3 : w58.cell? ⟨gb294,3,none⟩ = some (.int .i64 0):=(zc_ BK294.out 3).trans rfl;have hcz61_4 : w58.cell? ⟨gb294,4,none⟩ = some (.int .i64 0):=(zc_ BK294.out 4).trans rfl;have hcz61_5 : w58.cell? ⟨gb294,5,none⟩ = some (.slice none 0 0):=(zc_ BK294.out 5).trans rfl;have hfz61_0:=zf_ BK294.out 0;have hfz61_1:=zf_ BK294.out 1;have hfz61_2:=zf_ BK294.out 2;have hfz61_3:=zf_ BK294.out 3;have hfz61_4:=zf_ BK294.out 4;have hfz61_5:=zf_ BK294.out 5;have hnb62:=NB286_287.out;have hnc62:=NB287_286.out;have hcz63_0 : w58.cell? ⟨gb286,0,none⟩ = some (.slice A0_0 l0_0.length c0_0):=(zc_ BK286.out 0).trans rfl;have hfz63_0:=zf_ BK286.out 0)|((with_reducible refine gate_callee (f:=18) rfl ?_);refine goesL_ (some 35) rfl rfl Try.func18 (by kernel_rfl) rfl #[.int .i64 ((rd_T47 l1_0 x25_2).f0),.int .i64 0,.int .i64 (wrap64 ((l0_0.length : Int) - 1))] rfl zq_ ?_;(with_reducible refine (impl_within.calls ((rd_T47 l1_0 x25_2).f0) 0 (wrap64 ((l0_0.length : Int) - 1)) false _ A21.out).mono ?_);rintro e w' ⟨rfl,⟨nd,rfl⟩⟩;refine ⟨_,rfl,?_⟩))
          go_ret
          exact ⟨zE_,by repeat (first|(with_reducible first|exact HB.out|apply za_|apply zn_|apply zd_|refine zs_ ?_ GE286.out|refine zs_ ?_ GE287.out|refine zs_ ?_ GE294.out)|exact HB.out)⟩
        ·rw [if_neg c20] at H
         exact absurd H (by simp)
       ·rw [if_neg c19] at H
        exact absurd H (by simp)
      ·rw [if_neg c18] at H
       have c18b0 : decide (x25_2 < (l1_0.length : Int)) = false:=decide_eq_false c18
       clear c18
       obtain ⟨ji64,hji64⟩ : ∃ j_ : Int,(wrap64 ((x5_2.length : Int) - 1)) = j_:=⟨_,rfl⟩
       replace H : (if 0 ≤ (ji64) then (if (ji64) < (x5_2.length : Int) then (some (rdOf ByteArray.empty x5_2 (ji64))) else (none)) else (none)) = some r:=by first|(rw [hji64] at H;exact H)|(simp only [hji64] at H ⊢;exact H)
       have hji64w : (IntKind.i64.wrap ((x5_2.length : Int) - 1)) = ji64:=(i64_w _).trans hji64
       by_cases c65 : 0 ≤ (ji64)
       ·rw [if_pos c65] at H
        have c65b0 : decide (0 ≤ (ji64)) = true:=decide_eq_true c65
        clear c65
        by_cases c66 : (ji64) < (x5_2.length : Int)
        ·rw [if_pos c66] at H
         have c66b0 : decide ((ji64) < (x5_2.length : Int)) = true:=decide_eq_true c66
         clear c66
         obtain rfl:=Option.some.inj H
         obtain ⟨Ao67,co67,eo67⟩:=Kd.R_slice HO_5.out
         subst eo67
         have p292 : 0 ≤ ((ji64) : Int):=zo_
         have q292 : (ji64) < (x5_2.length : Int):=zo_
         obtain ⟨ad292,e292,hx292_0⟩:=Kd.at_string (Kd.R_reads' HO_5.out).2.2 (ji64) p292 q292
         cases e292
         replace p292:=eq_true p292
         replace q292:=eq_true q292
         go_wp2
         go_ret
         exact ⟨by first|rfl|(simp [errW_none,errW_some] <;> rfl)|(simp only [← hji64];first|rfl|(simp [errW_none,errW_some] <;> rfl))|(simp [*,errW_none,errW_some] <;> rfl),by repeat (first|(with_reducible first|exact HB.out|apply za_|apply zn_|apply zd_|refine zs_ ?_ GE286.out|refine zs_ ?_ GE287.out)|exact HB.out)⟩
        ·rw [if_neg c66] at H
         exact absurd H (by simp)
       ·rw [if_neg c65] at H
        exact absurd H (by simp)

end Go.Proofs.Ytkbgmojomgelbaa.MFnExactTreeText
