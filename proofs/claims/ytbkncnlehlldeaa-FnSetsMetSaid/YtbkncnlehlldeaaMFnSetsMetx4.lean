import Derived.Test.YtbkncnlehlldeaaMFnSetsMetx0
import Derived.Test.YtbkncnlehlldeaaMFnSetsMetx1
namespace Go.Proofs.Ytbkncnlehlldeaa.MFnSetsMet
open Go.RowKit Go.Proofs.YtbkncnlehlldeaaW.PrintWords Go.Proofs.YtbkncnlehlldeaaW.PrintLast Go.Proofs.YtbkncnlehlldeaaW.PrintMore
attribute [local go_sem] max2_int min2_int max_two min_two max_three min_three max_four min_four
set_option linter.unusedVariables false
set_option linter.unusedSimpArgs false

mutual
def impl_SetOf.l0 : Nat → List Int → List Int → Int → Option (ByteArray × Bool)
 |0,_,_,_ => none
 |k + 1,x4,x5,x6 => if x6 < (x4.length : Int) then (impl_SetOf.l1 k x4 x5 x6 1) else (impl_SetOf.l2 k x5 x4 (x4.length : Int) 0)
def impl_SetOf.l1 : Nat → List Int → List Int → Int → Int → Option (ByteArray × Bool)
 |0,_,_,_,_ => none
 |k + 1,x4,x5,x6,x7 => if (wrap64 (x6 + x7)) < (x4.length : Int) then (if 0 ≤ (wrap64 (x6 + x7)) then (if 0 ≤ x6 then (if x6 < (x4.length : Int) then (if (wrap64 (rd x4 (wrap64 (x6 + x7)))) = (wrap64 ((wrap64 (rd x4 x6)) + x7)) then (impl_SetOf.l1 k x4 x5 x6 (wrap64 (x7 + 1))) else (if x7 ≥ 3 then (if 0 ≤ (wrap64 ((wrap64 (x6 + x7)) - 1)) then (if (wrap64 ((wrap64 (x6 + x7)) - 1)) < (x4.length : Int) then ((some (([rd x4 x6,45,rd x4 (wrap64 ((wrap64 (x6 + x7)) - 1))] : List Int) : List Int)).bind fun y172 => (if x5.length + y172.length < 140737488355328 then (impl_SetOf.l0 k x4 (x5 ++ y172) (wrap64 (x6 + x7))) else (none))) else (none)) else (none)) else (if x6 ≤ (wrap64 (x6 + x7)) then (if (wrap64 (x6 + x7)) ≤ (x4.length : Int) then (if x5.length + ((x4.take ((wrap64 (x6 + x7)) : Int).toNat).drop (x6 : Int).toNat).length < 140737488355328 then (impl_SetOf.l0 k x4 (x5 ++ ((x4.take ((wrap64 (x6 + x7)) : Int).toNat).drop (x6 : Int).toNat)) (wrap64 (x6 + x7))) else (none)) else (none)) else (none)))) else (none)) else (none)) else (none)) else (if x7 ≥ 3 then (if 0 ≤ x6 then (if x6 < (x4.length : Int) then (if 0 ≤ (wrap64 ((wrap64 (x6 + x7)) - 1)) then (if (wrap64 ((wrap64 (x6 + x7)) - 1)) < (x4.length : Int) then ((some (([rd x4 x6,45,rd x4 (wrap64 ((wrap64 (x6 + x7)) - 1))] : List Int) : List Int)).bind fun y184 => (if x5.length + y184.length < 140737488355328 then (impl_SetOf.l0 k x4 (x5 ++ y184) (wrap64 (x6 + x7))) else (none))) else (none)) else (none)) else (none)) else (none)) else (if 0 ≤ x6 then (if x6 ≤ (wrap64 (x6 + x7)) then (if (wrap64 (x6 + x7)) ≤ (x4.length : Int) then (if x5.length + ((x4.take ((wrap64 (x6 + x7)) : Int).toNat).drop (x6 : Int).toNat).length < 140737488355328 then (impl_SetOf.l0 k x4 (x5 ++ ((x4.take ((wrap64 (x6 + x7)) : Int).toNat).drop (x6 : Int).toNat)) (wrap64 (x6 + x7))) else (none)) else (none)) else (none)) else (none)))
def impl_SetOf.l2 : Nat → List Int → List Int → Int → Int → Option (ByteArray × Bool)
 |0,_,_,_,_ => none
 |k + 1,x5,x73,x74,x75 => if x75 < x74 then (if 0 ≤ x75 then (if x75 < (x73.length : Int) then ((impl_isSetByte.f (rd x73 x75)).bind fun t195 => (if t195 = true then (impl_SetOf.l2 k x5 x73 x74 (wrap64 (x75 + 1))) else (some ((⟨#[]⟩ : ByteArray),false)))) else (none)) else (none)) else ((impl_SetOk.f k (strOfNums x5)).bind fun t196 => (if t196 = true then (some (strOfNums x5,true)) else (some ((⟨#[]⟩ : ByteArray),false))))
end
def impl_SetOf.f0 (k : Nat) (l0 : List Int) : Option (ByteArray × Bool):=impl_SetOf.l0 k l0 (([] : List Int)) 0
theorem impl_SetOf.mono_l : ∀ k,(∀ y0 y1 y2,LeO (impl_SetOf.l0 k y0 y1 y2) (impl_SetOf.l0 (k + 1) y0 y1 y2)) ∧ (∀ y0 y1 y2 y3,LeO (impl_SetOf.l1 k y0 y1 y2 y3) (impl_SetOf.l1 (k + 1) y0 y1 y2 y3)) ∧ (∀ y0 y1 y2 y3,LeO (impl_SetOf.l2 k y0 y1 y2 y3) (impl_SetOf.l2 (k + 1) y0 y1 y2 y3))
 |0 => ⟨fun _ _ _ r h => by simp [impl_SetOf.l0] at h,fun _ _ _ _ r h => by simp [impl_SetOf.l1] at h,fun _ _ _ _ r h => by simp [impl_SetOf.l2] at h⟩
 |k + 1 => by
  obtain ⟨ih0,ih1,ih2⟩:=impl_SetOf.mono_l k
  refine ⟨?_,?_,?_⟩
  ·intro y0 y1 y2
   unfold impl_SetOf.l0
   repeat' first
   |(with_reducible exact ih0 _ _ _)
   |(with_reducible exact ih1 _ _ _ _)
   |(with_reducible exact ih2 _ _ _ _)
   |(with_reducible exact impl_SetOk.mono _ _)
   |(with_reducible exact LeO.refl _)
   |(with_reducible exact LeO.none _)
   |(with_reducible refine LeO.ite ?_ ?_)
   |(with_reducible refine LeO.bind ?_ (fun _ => ?_))
  ·intro y0 y1 y2 y3
   unfold impl_SetOf.l1
   repeat' first
   |(with_reducible exact ih0 _ _ _)
   |(with_reducible exact ih1 _ _ _ _)
   |(with_reducible exact ih2 _ _ _ _)
   |(with_reducible exact impl_SetOk.mono _ _)
   |(with_reducible exact LeO.refl _)
   |(with_reducible exact LeO.none _)
   |(with_reducible refine LeO.ite ?_ ?_)
   |(with_reducible refine LeO.bind ?_ (fun _ => ?_))
  ·intro y0 y1 y2 y3
   unfold impl_SetOf.l2
   repeat' first
   |(with_reducible exact ih0 _ _ _)
   |(with_reducible exact ih1 _ _ _ _)
   |(with_reducible exact ih2 _ _ _ _)
   |(with_reducible exact impl_SetOk.mono _ _)
   |(with_reducible exact LeO.refl _)
   |(with_reducible exact LeO.none _)
   |(with_reducible refine LeO.ite ?_ ?_)
   |(with_reducible refine LeO.bind ?_ (fun _ => ?_))
theorem impl_SetOf.mono0 : ∀ a0 k,LeO (impl_SetOf.f0 k a0) (impl_SetOf.f0 (k + 1) a0):=by
 intro a0 k
 obtain ⟨ih0,ih1,ih2⟩:=impl_SetOf.mono_l k
 unfold impl_SetOf.f0
 repeat' first
   |(with_reducible exact ih0 _ _ _)
   |(with_reducible exact ih1 _ _ _ _)
   |(with_reducible exact ih2 _ _ _ _)
   |(with_reducible exact impl_SetOk.mono _ _)
   |(with_reducible exact LeO.refl _)
   |(with_reducible exact LeO.none _)
   |(with_reducible refine LeO.ite ?_ ?_)
   |(with_reducible refine LeO.bind ?_ (fun _ => ?_))
def impl_SetOf.T8 : Bool × List (List Nat × List Nat):=(true,[([],[]),([],[]),([0,1],[0,1]),([],[]),([3],[3]),([2,4],[2,4]),([5],[5]),([6],[6]),([6],[6]),([6],[6]),([8,9,6],[6,8,9]),([7,10,6],[6,7,10]),([11,6],[6,11]),([12,6],[6,12]),([6],[6]),([6],[6]),([14,15,6],[6,14,15]),([16,6],[6,16]),([17,6],[6,17]),([6],[6]),([18,19,6],[6,18,19]),([13,20,6],[6,13,20]),([6,21],[6,21])])
def impl_SetOf.B8 : List Nat:=[0,0,3,0,8,31,63,127,127,127,895,2047,4095,8191,127,127,49279,114815,245887,127,1032319,2097151,4194303]
theorem impl_SetOf.tab8 : rtab .any (opsOf Try.f20 8) = impl_SetOf.T8:=by kernel_rfl
theorem impl_SetOf.bits8 : waitsOk impl_SetOf.T8.2 impl_SetOf.B8 = true:=by kernel_rfl
def impl_SetOf.T11 : Bool × List (List Nat × List Nat):=(true,[([],[]),([],[]),([],[]),([1,2],[1,2]),([3],[3]),([],[]),([],[]),([],[]),([6,7],[6,7]),([8],[8]),([5,9],[5,9]),([10],[10]),([4,11],[4,11]),([0,12],[0,12]),([13,13,0,1,2,3,4,5,6,7,8,9,10,11,12,13],[0,13])])
def impl_SetOf.B11 : List Nat:=[0,0,0,6,14,0,0,0,192,448,992,2016,4094,8191,16383]
theorem impl_SetOf.tab11 : rtab .any (opsOf Try.f20 11) = impl_SetOf.T11:=by kernel_rfl
theorem impl_SetOf.bits11 : waitsOk impl_SetOf.T11.2 impl_SetOf.B11 = true:=by kernel_rfl
/-- The whole of it: the string's bytes sorted,each once,then what is told of them. -/
def impl_SetOf.f (k : Nat) (a0 : ByteArray) : Option (ByteArray × Bool):=if a0.size < 4611686018427387904 then impl_SetOf.f0 k (Srt.dd (Srt.msort (bytesOf a0))) else none
theorem impl_SetOf.mono : ∀ a0 k,LeO (impl_SetOf.f k a0) (impl_SetOf.f (k + 1) a0):=by
 intro a0 k
 unfold impl_SetOf.f
 split
 ·exact impl_SetOf.mono0 _ k
 ·intro r h;cases h
set_option maxHeartbeats 8000000 in
set_option maxRecDepth 100000 in
theorem impl_SetOf.calls (k : Nat) (a0 : ByteArray) (r1 : ByteArray) (r2 : Bool) (wo : World) (h : impl_SetOf.f k a0 = some (r1,r2)) :
  Calls Try.prog 20 #[.string a0] wo fun e w' => e = .returned (.tuple #[.string r1,.bool r2]) ∧ Below wo.heap.size wo w':=by
 unfold impl_SetOf.f at h
 by_cases hs : a0.size < 4611686018427387904
 rotate_left
 ·rw [if_neg hs] at h;cases h
 rw [if_pos hs] at h
 obtain ⟨u_,w1,A0,c0,l0,R_,hl0,hc0,hconv,hsort,hcomp⟩:=Srt.prep a0 hs wo
 rw [← hl0] at h
 have HC0:=zm_ hc0
 clear hc0 hl0 hs
 have H : (impl_SetOf.l0 k l0 (([] : List Int)) 0) = some (r1,r2):=h
 clear h
 obtain ⟨y165,hy165⟩ : ∃ y_ : List Int,y_ = (([] : List Int)):=⟨_,rfl⟩
 replace H : (impl_SetOf.l0 k l0 y165 0) = some (r1,r2):=by first|(rw [hy165];with_reducible exact H)|(have H2_:=(Option.bind_some _ _).symm.trans H;rw [hy165];with_reducible exact H2_)|(have H2_:=(Option.bind_some _ _).symm.trans H;with_reducible exact H2_)|with_reducible exact H|(rw [hy165];exact H)|exact H
 have Ny165:=zm_ hy165
 clear hy165
 have H':=zm_ H
 clear H
 go_enter Try.func20,Try.ntmps20
 go_wp2_with (first|(go_at_call 36;with_reducible refine hsort.mono ?_;rintro e w2 ⟨rfl,hR2⟩)|(go_at_call 37;with_reducible refine (hcomp _ hR2).mono ?_;rintro e w ⟨rfl,hr0,hb0⟩;have HR0:=zm_ hr0;have HB:=zm_ (Below.refl w.heap.size w);have FIN : Aside0 (∀ e' w',(e' = Ending.returned (.tuple #[.string r1,.bool r2]) ∧ Below w.heap.size w w') → (e' = Ending.returned (.tuple #[.string r1,.bool r2]) ∧ Below wo.heap.size wo w')):=⟨fun e' w' h' => ⟨h'.1,hb0.trans (h'.2.mono hb0.size)⟩⟩;clear hr0 hb0 hcomp hsort hconv hR2)|((with_reducible refine gate_dst (N:=16) rfl ?_);refine Kd.R_lit (Kd.int .u8) _ 5 ?hg (N:=16) ?hd (xs:=([] : List Int)) (inner:=[]) (ok:=fun _ => True) (okp:=fun _ => True) ?hr ?hp (fun _ hk => hk) trivial (Below.refl _ _) (Nat.le_refl _) (by simp) ?_;(case hd => rfl);(case hg => rfl);(case hr => first|(go_simp;done)|(go_simp;rfl));(case hp => exact (Reps.none _ _));intro v166 w2 ho3 hb hg_ hnew_;clear hg_ hnew_;(first|rw [← Ny165.out] at ho3|(simp only [Int.reduceToNat] at ho3;rw [← Ny165.out] at ho3));have n0_:=zm_ (Kd.R_lower ho3 (below_size zB_));have n1_:=zm_ (below_step zB_ hb);clear HB;have HO167:=n0_;have HB:=n1_;clear n0_ n1_;clear hb ho3))
 go_loopg [5,6] k (fun kq v5 v6 w' => ∃ (x5_1 : List Int) (x6_1 : Int),v6 = .int .i64 x6_1 ∧ Aside0 (impl_SetOf.l0 kq l0 x5_1 x6_1 = some (r1,r2)) ∧ Aside0 (kq ≤ k) ∧ Aside0 (Kd.R (Kd.int .u8) 5 w' w.heap.size (fun _ => True) v5 x5_1) ∧ Aside0 (Below w.heap.size w w'))
 case atStart => exact ⟨(y165),(0),zV_,H',⟨Nat.le_refl _⟩,⟨by (with_reducible repeat (first|apply Kd.R_alloc|apply Kd.R_drewN|apply Kd.R_drew));exact HO167.out⟩,⟨by repeat (first|(with_reducible first|exact HB.out|apply za_|apply zn_|apply zd_)|exact HB.out)⟩⟩
 case round =>
  clear H'
  try clear c2
  try clear p2
  obtain ⟨x5_1,x6_1,rfl,HA,HK1,HO_5,HB⟩:=hrel
  cases gk with
  |zero => exact absurd HA.out (by simp [impl_SetOf.l0])
  |succ k1 =>
   have H:=HA.out
   clear HA
   simp only [impl_SetOf.l0] at H
   by_cases c4 : x6_1 < (l0.length : Int)
   ·rw [if_pos c4] at H
    have c4b0 : decide (x6_1 < (l0.length : Int)) = true:=decide_eq_true c4
    clear c4
    have H':=zm_ H
    clear H
    go_wp2
    go_loopg [7] k1 (fun kq v7 w' => ∃ (x7_2 : Int),v7 = .int .i64 x7_2 ∧ Aside0 (impl_SetOf.l1 kq l0 x5_1 x6_1 x7_2 = some (r1,r2)) ∧ Aside0 (kq ≤ k1) ∧ Aside0 (Kd.R (Kd.int .u8) 5 w' w.heap.size (fun _ => True) u5 x5_1) ∧ Aside0 (Below w.heap.size w w'))
    case atStart => exact ⟨(1),zV_,H',⟨Nat.le_refl _⟩,⟨by (with_reducible repeat (first|apply Kd.R_alloc|apply Kd.R_drewN|apply Kd.R_drew));exact HO_5.out⟩,⟨by repeat (first|(with_reducible first|exact HB.out|apply za_|apply zn_|apply zd_)|exact HB.out)⟩⟩
    case round =>
     clear H'
     try clear c2
     try clear p2
     try clear c4
     try clear c4b0
     try clear p2
     obtain ⟨x7_2,rfl,HA,HK2,HO_5,HB⟩:=hrel
     cases gk with
     |zero => exact absurd HA.out (by simp [impl_SetOf.l1])
     |succ k2 =>
      have H:=HA.out
      clear HA
      simp only [impl_SetOf.l1] at H
      by_cases c5 : (wrap64 (x6_1 + x7_2)) < (l0.length : Int)
      ·rw [if_pos c5] at H
       have c5b0 : decide ((wrap64 (x6_1 + x7_2)) < (l0.length : Int)) = true:=decide_eq_true c5
       clear c5
       obtain ⟨ji6,hji6⟩ : ∃ j_ : Int,(wrap64 (x6_1 + x7_2)) = j_:=⟨_,rfl⟩
       replace H : (if 0 ≤ (ji6) then (if 0 ≤ x6_1 then (if x6_1 < (l0.length : Int) then (if (wrap64 (rd l0 (ji6))) = (wrap64 ((wrap64 (rd l0 x6_1)) + x7_2)) then (impl_SetOf.l1 k2 l0 x5_1 x6_1 (wrap64 (x7_2 + 1))) else (if x7_2 ≥ 3 then (if 0 ≤ (wrap64 ((ji6) - 1)) then (if (wrap64 ((ji6) - 1)) < (l0.length : Int) then ((some (([rd l0 x6_1,45,rd l0 (wrap64 ((ji6) - 1))] : List Int) : List Int)).bind fun y172 => (if x5_1.length + y172.length < 140737488355328 then (impl_SetOf.l0 k2 l0 (x5_1 ++ y172) ji6) else (none))) else (none)) else (none)) else (if x6_1 ≤ (ji6) then (if (ji6) ≤ (l0.length : Int) then (if x5_1.length + ((l0.take ((ji6) : Int).toNat).drop (x6_1 : Int).toNat).length < 140737488355328 then (impl_SetOf.l0 k2 l0 (x5_1 ++ ((l0.take ((ji6) : Int).toNat).drop (x6_1 : Int).toNat)) ji6) else (none)) else (none)) else (none)))) else (none)) else (none)) else (none)) = some (r1,r2):=by first|(rw [hji6] at H;exact H)|(simp only [hji6] at H ⊢;exact H)
       (try rw [hji6] at c5b0)
       have hji6w : (IntKind.i64.wrap (x6_1 + x7_2)) = ji6:=(i64_w _).trans hji6
       by_cases c7 : 0 ≤ (ji6)
       ·rw [if_pos c7] at H
        have c7b0 : decide (0 ≤ (ji6)) = true:=decide_eq_true c7
        clear c7
        by_cases c8 : 0 ≤ x6_1
        ·rw [if_pos c8] at H
         have c8b0 : decide (0 ≤ x6_1) = true:=decide_eq_true c8
         clear c8
         by_cases c9 : x6_1 < (l0.length : Int)
         ·rw [if_pos c9] at H
          have c9b0 : decide (x6_1 < (l0.length : Int)) = true:=decide_eq_true c9
          clear c9
          by_cases c10 : (wrap64 (rd l0 (ji6))) = (wrap64 ((wrap64 (rd l0 x6_1)) + x7_2))
          ·rw [if_pos c10] at H
           have c10b0 : ((wrap64 (rd l0 (ji6))) == (wrap64 ((wrap64 (rd l0 x6_1)) + x7_2))) = true:=beq_iff_eq.mpr c10
           have c10b1 : ((wrap64 (rd l0 (ji6))) != (wrap64 ((wrap64 (rd l0 x6_1)) + x7_2))) = false:=bne_eq_false_iff_eq.mpr c10
           clear c10
           have H':=zm_ H
           clear H
           try go_wp2
           have n0_:=zm_ (Kd.R_drew HO_5.out)
           have n1_:=zm_ (zd_ HB.out)
           clear HO_5
           clear HB
           have HO_5:=n0_
           have HB:=n1_
           clear n0_ n1_
           have p168 : 0 ≤ ((ji6) : Int):=zo_
           have q168 : (ji6) < (l0.length : Int):=zo_
           obtain ⟨ad168,e168,hx168_0⟩:=Kd.at_int HR0.out (ji6) p168 q168
           have hw168_0:=hx168_0
           cases e168
           replace hx168_0:=(HB.out.cell (zb_ w _ hx168_0)).trans hx168_0
           replace p168:=eq_true p168
           replace q168:=eq_true q168
           have p169 : 0 ≤ (x6_1 : Int):=zo_
           have q169 : x6_1 < (l0.length : Int):=zo_
           obtain ⟨ad169,e169,hx169_0⟩:=Kd.at_int HR0.out x6_1 p169 q169
           have hw169_0:=hx169_0
           obtain rfl : ad168 = ad169:=(by injection e169)
           replace hx169_0:=(HB.out.cell (zb_ w _ hx169_0)).trans hx169_0
           replace p169:=eq_true p169
           replace q169:=eq_true q169
           refine start_ (n:=23) (S:=fun w' => w'.cell? (ad168.add ((ji6)).toNat) = some (.int .u8 (rd l0 (ji6))) ∧ w'.cell? (ad168.add (x6_1).toNat) = some (.int .u8 (rd l0 x6_1))) (ds:=[]) #[false,false,false,false,false,false,false,false,false,false,false,false,false,false,false,false,false,false,false,false,false,false,false] (by kernel_rfl) rfl rfl ⟨((HB.out.cell (zb_ w _ hw168_0)).trans hw168_0),((HB.out.cell (zb_ w _ hw169_0)).trans hw169_0)⟩ (fun hHeld => ?_);refine with_tabW impl_SetOf.tab8 impl_SetOf.bits8 (fun HT_ HW_ => ?_)
           generalize wr.drew = w11 at HO_5 HB hx168_0 hx169_0 hHeld ⊢
           refine pure_ (i:=0) (N:=some 21) (v:=?_) (a':=?_) #[true,false,false,false,false,false,false,false,false,false,false,false,false,false,false,false,false,false,false,false,false,false,false] rfl rfl (any_of HT_.out (by kernel_rfl)) (fun _ _ _ h => h) (Or.inl ⟨by rfl,?_⟩) ?_ ?_
           rotate_left
           ·intro w'
            go_simp
            with_reducible rfl
           rotate_left
           ·simp only [Act.put,List.setIfInBounds_toArray,List.set_cons_zero,List.set_cons_succ,i64_w,i32_w,IntKind.wrap_u8]
            rfl
           refine pure_ (i:=1) (N:=some 22) (v:=?_) (a':=?_) #[true,true,false,false,false,false,false,false,false,false,false,false,false,false,false,false,false,false,false,false,false,false,false] rfl rfl (any_of HT_.out (by kernel_rfl)) (fun _ _ _ h => h) (Or.inl ⟨by rfl,?_⟩) ?_ ?_
           rotate_left
           ·intro w'
            go_simp
            with_reducible rfl
           rotate_left
           ·simp only [Act.put,List.setIfInBounds_toArray,List.set_cons_zero,List.set_cons_succ,i64_w,i32_w,IntKind.wrap_u8]
            rfl
           refine pure_ (i:=2) (N:=some 23) (v:=?_) (a':=?_) #[true,true,true,false,false,false,false,false,false,false,false,false,false,false,false,false,false,false,false,false,false,false,false] rfl rfl (any_of HT_.out (by kernel_rfl)) (fun _ _ _ h => h) (Or.inl ⟨by rfl,?_⟩) ?_ ?_
           rotate_left
           ·intro w'
            go_simp
            with_reducible rfl
           rotate_left
           ·simp only [Act.put,List.setIfInBounds_toArray,List.set_cons_zero,List.set_cons_succ,i64_w,i32_w,IntKind.wrap_u8]
            rfl
           refine pure_ (i:=3) (N:=some 24) (v:=?_) (a':=?_) #[true,true,true,true,false,false,false,false,false,false,false,false,false,false,false,false,false,false,false,false,false,false,false] rfl rfl (any_of HT_.out (by kernel_rfl)) (fun _ _ _ h => h) (Or.inl ⟨by rfl,?_⟩) ?_ ?_
           rotate_left
           ·intro w'
            go_simp
            with_reducible rfl
           rotate_left
           ·simp only [Act.put,List.setIfInBounds_toArray,List.set_cons_zero,List.set_cons_succ,i64_w,i32_w,IntKind.wrap_u8]
            rfl
           refine pure_ (i:=4) (N:=some 25) (v:=?_) (a':=?_) #[true,true,true,true,true,false,false,false,false,false,false,false,false,false,false,false,false,false,false,false,false,false,false] rfl rfl (any_of HT_.out (by kernel_rfl)) (fun _ _ _ h => h) (Or.inl ⟨by rfl,?_⟩) ?_ ?_
           rotate_left
           ·intro w'
            go_simp
            with_reducible rfl
           rotate_left
           ·simp only [Act.put,List.setIfInBounds_toArray,List.set_cons_zero,List.set_cons_succ,i64_w,i32_w,IntKind.wrap_u8]
            rfl
           refine pure_ (i:=5) (N:=some 26) (v:=?_) (a':=?_) #[true,true,true,true,true,true,false,false,false,false,false,false,false,false,false,false,false,false,false,false,false,false,false] rfl rfl (any_of HT_.out (by kernel_rfl)) (fun _ _ _ h => h) (Or.inl ⟨by rfl,?_⟩) ?_ ?_
           rotate_left
           ·intro w'
            go_simp
            with_reducible rfl
           rotate_left
           ·simp only [Act.put,List.setIfInBounds_toArray,List.set_cons_zero,List.set_cons_succ,i64_w,i32_w,IntKind.wrap_u8]
            rfl
           refine pure_ (i:=6) (N:=some 27) (v:=?_) (a':=?_) #[true,true,true,true,true,true,true,false,false,false,false,false,false,false,false,false,false,false,false,false,false,false,false] rfl rfl (any_of HT_.out (by kernel_rfl)) (fun _ _ _ h => h) (Or.inl ⟨by rfl,?_⟩) ?_ ?_
           rotate_left
           ·intro w'
            go_simp
            with_reducible rfl
           rotate_left
           ·simp only [Act.put,List.setIfInBounds_toArray,List.set_cons_zero,List.set_cons_succ,i64_w,i32_w,IntKind.wrap_u8]
            rfl
           refine pure_ (i:=7) (N:=some 28) (v:=?_) (a':=?_) #[true,true,true,true,true,true,true,true,false,false,false,false,false,false,false,false,false,false,false,false,false,false,false] rfl rfl (any_of HT_.out (by kernel_rfl)) (fun _ _ _ h => h) (Or.inl ⟨by rfl,?_⟩) ?_ ?_
           rotate_left
           ·intro w'
            go_simp
            with_reducible rfl
           rotate_left
           ·simp only [Act.put,List.setIfInBounds_toArray,List.set_cons_zero,List.set_cons_succ,i64_w,i32_w,IntKind.wrap_u8]
            rfl
           refine pure_ (i:=8) (N:=some 29) (v:=?_) (a':=?_) #[true,true,true,true,true,true,true,true,true,false,false,false,false,false,false,false,false,false,false,false,false,false,false] rfl rfl (any_of HT_.out (by kernel_rfl)) (fun _ _ _ h => h) (Or.inl ⟨by rfl,?_⟩) ?_ ?_
           rotate_left
           ·intro w'
            go_simp
            with_reducible rfl
           rotate_left
           ·simp only [Act.put,List.setIfInBounds_toArray,List.set_cons_zero,List.set_cons_succ,i64_w,i32_w,IntKind.wrap_u8]
            rfl
           refine pure_ (i:=9) (N:=some 30) (v:=?_) (a':=?_) #[true,true,true,true,true,true,true,true,true,true,false,false,false,false,false,false,false,false,false,false,false,false,false] rfl rfl (any_of HT_.out (by kernel_rfl)) (fun _ _ _ h => h) (Or.inl ⟨by rfl,?_⟩) ?_ ?_
           rotate_left
           ·intro w'
            go_simp
            with_reducible rfl
           rotate_left
           ·simp only [Act.put,List.setIfInBounds_toArray,List.set_cons_zero,List.set_cons_succ,i64_w,i32_w,IntKind.wrap_u8]
            rfl
           refine pure_ (i:=10) (N:=some 31) (v:=?_) (a':=?_) #[true,true,true,true,true,true,true,true,true,true,true,false,false,false,false,false,false,false,false,false,false,false,false] rfl rfl (any_of HT_.out (by kernel_rfl)) (fun _ _ _ h => h) (Or.inl ⟨by rfl,?_⟩) ?_ ?_
           rotate_left
           ·intro w'
            go_simp
            with_reducible rfl
           rotate_left
           ·simp only [Act.put,List.setIfInBounds_toArray,List.set_cons_zero,List.set_cons_succ,i64_w,i32_w,IntKind.wrap_u8]
            rfl
           refine pure_ (i:=11) (N:=some 32) (v:=?_) (a':=?_) #[true,true,true,true,true,true,true,true,true,true,true,true,false,false,false,false,false,false,false,false,false,false,false] rfl rfl (any_of HT_.out (by kernel_rfl)) (fun _ _ _ h => h) (Or.inl ⟨by rfl,?_⟩) ?_ ?_
           rotate_left
           ·intro w'
            go_simp
            with_reducible rfl
           rotate_left
           ·simp only [Act.put,List.setIfInBounds_toArray,List.set_cons_zero,List.set_cons_succ,i64_w,i32_w,IntKind.wrap_u8]
            rfl
           refine pure_ (i:=14) (N:=some 35) (v:=?_) (a':=?_) #[true,true,true,true,true,true,true,true,true,true,true,true,false,false,true,false,false,false,false,false,false,false,false] rfl rfl (any_of HT_.out (by kernel_rfl)) (fun _ _ _ h => h) (Or.inl ⟨by rfl,?_⟩) ?_ ?_
           rotate_left
           ·intro w'
            go_simp
            with_reducible rfl
           rotate_left
           ·simp only [Act.put,List.setIfInBounds_toArray,List.set_cons_zero,List.set_cons_succ,i64_w,i32_w,IntKind.wrap_u8]
            rfl
           refine pure_ (i:=15) (N:=some 36) (v:=?_) (a':=?_) #[true,true,true,true,true,true,true,true,true,true,true,true,false,false,true,true,false,false,false,false,false,false,false] rfl rfl (any_of HT_.out (by kernel_rfl)) (fun _ _ _ h => h) (Or.inl ⟨by rfl,?_⟩) ?_ ?_
           rotate_left
           ·intro w'
            go_simp
            with_reducible rfl
           rotate_left
           ·simp only [Act.put,List.setIfInBounds_toArray,List.set_cons_zero,List.set_cons_succ,i64_w,i32_w,IntKind.wrap_u8]
            rfl
           refine pure_ (i:=16) (N:=some 37) (v:=?_) (a':=?_) #[true,true,true,true,true,true,true,true,true,true,true,true,false,false,true,true,true,false,false,false,false,false,false] rfl rfl (any_of HT_.out (by kernel_rfl)) (fun _ _ _ h => h) (Or.inl ⟨by rfl,?_⟩) ?_ ?_
           rotate_left
           ·intro w'
            go_simp
            with_reducible rfl
           rotate_left
           ·simp only [Act.put,List.setIfInBounds_toArray,List.set_cons_zero,List.set_cons_succ,i64_w,i32_w,IntKind.wrap_u8]
            rfl
           refine pure_ (i:=19) (N:=some 40) (v:=?_) (a':=?_) #[true,true,true,true,true,true,true,true,true,true,true,true,false,false,true,true,true,false,false,true,false,false,false] rfl rfl (any_of HT_.out (by kernel_rfl)) (fun _ _ _ h => h) (Or.inl ⟨by rfl,?_⟩) ?_ ?_
           rotate_left
           ·intro w'
            go_simp
            with_reducible rfl
           rotate_left
           ·simp only [Act.put,List.setIfInBounds_toArray,List.set_cons_zero,List.set_cons_succ,i64_w,i32_w,IntKind.wrap_u8]
            rfl
           refine take_ (i:=12) (N:=some 33) (v:=?_) (a':=?_) #[true,true,true,true,true,true,true,true,true,true,true,true,true,false,true,true,true,false,false,true,false,false,false] rfl rfl (take_ofW HT_.out HW_.out (by kernel_rfl)) (fun _ _ _ h => h) (Or.inl ⟨by rfl,?_⟩) hHeld ?_ ?_
           rotate_left
           ·rintro w' ⟨s0,s1⟩
            go_simp
            with_reducible rfl
           rotate_left
           ·simp only [Act.put,List.setIfInBounds_toArray,List.set_cons_zero,List.set_cons_succ,i64_w,i32_w,IntKind.wrap_u8]
            rfl
           refine pure_ (i:=13) (N:=some 34) (v:=?_) (a':=?_) #[true,true,true,true,true,true,true,true,true,true,true,true,true,true,true,true,true,false,false,true,false,false,false] rfl rfl (any_of HT_.out (by kernel_rfl)) (fun _ _ _ h => h) (Or.inl ⟨by rfl,?_⟩) ?_ ?_
           rotate_left
           ·intro w'
            go_simp
            with_reducible rfl
           rotate_left
           ·simp only [Act.put,List.setIfInBounds_toArray,List.set_cons_zero,List.set_cons_succ,i64_w,i32_w,IntKind.wrap_u8]
            rfl
           refine take_ (i:=17) (N:=some 38) (v:=?_) (a':=?_) #[true,true,true,true,true,true,true,true,true,true,true,true,true,true,true,true,true,true,false,true,false,false,false] rfl rfl (take_ofW HT_.out HW_.out (by kernel_rfl)) (fun _ _ _ h => h) (Or.inl ⟨by rfl,?_⟩) hHeld ?_ ?_
           rotate_left
           ·rintro w' ⟨s0,s1⟩
            go_simp
            with_reducible rfl
           rotate_left
           ·simp only [Act.put,List.setIfInBounds_toArray,List.set_cons_zero,List.set_cons_succ,i64_w,i32_w,IntKind.wrap_u8]
            rfl
           refine pure_ (i:=18) (N:=some 39) (v:=?_) (a':=?_) #[true,true,true,true,true,true,true,true,true,true,true,true,true,true,true,true,true,true,true,true,false,false,false] rfl rfl (any_of HT_.out (by kernel_rfl)) (fun _ _ _ h => h) (Or.inl ⟨by rfl,?_⟩) ?_ ?_
           rotate_left
           ·intro w'
            go_simp
            with_reducible rfl
           rotate_left
           ·simp only [Act.put,List.setIfInBounds_toArray,List.set_cons_zero,List.set_cons_succ,i64_w,i32_w,IntKind.wrap_u8]
            rfl
           refine pure_ (i:=20) (N:=some 41) (v:=?_) (a':=?_) #[true,true,true,true,true,true,true,true,true,true,true,true,true,true,true,true,true,true,true,true,true,false,false] rfl rfl (any_of HT_.out (by kernel_rfl)) (fun _ _ _ h => h) (Or.inl ⟨by rfl,?_⟩) ?_ ?_
           rotate_left
           ·intro w'
            go_simp
            with_reducible rfl
           rotate_left
           ·simp only [Act.put,List.setIfInBounds_toArray,List.set_cons_zero,List.set_cons_succ,i64_w,i32_w,IntKind.wrap_u8]
            rfl
           refine pure_ (i:=21) (N:=some 42) (v:=?_) (a':=?_) #[true,true,true,true,true,true,true,true,true,true,true,true,true,true,true,true,true,true,true,true,true,true,false] rfl rfl (any_of HT_.out (by kernel_rfl)) (fun _ _ _ h => h) (Or.inl ⟨by rfl,?_⟩) ?_ ?_
           rotate_left
           ·intro w'
            go_simp
            with_reducible rfl
           rotate_left
           ·simp only [Act.put,List.setIfInBounds_toArray,List.set_cons_zero,List.set_cons_succ,i64_w,i32_w,IntKind.wrap_u8]
            rfl
           refine pure_ (i:=22) (N:=some 43) (v:=?_) (a':=?_) #[true,true,true,true,true,true,true,true,true,true,true,true,true,true,true,true,true,true,true,true,true,true,true] rfl rfl (any_of HT_.out (by kernel_rfl)) (fun _ _ _ h => h) (Or.inl ⟨by rfl,?_⟩) ?_ ?_
           rotate_left
           ·intro w'
            go_simp
            with_reducible rfl
           rotate_left
           ·simp only [Act.put,List.setIfInBounds_toArray,List.set_cons_zero,List.set_cons_succ,i64_w,i32_w,IntKind.wrap_u8]
            rfl
           refine done_ (done_of HT_.out (by kernel_rfl)) ?_
           try go_wp2
           go_roundg k2
           case measure => have:=HK1.out;have:=HK2.out;omega
           case rel => exact ⟨(wrap64 (x7_2 + 1)),zV_,H',⟨by have:=HK1.out;have:=HK2.out;omega⟩,⟨by (with_reducible repeat (first|apply Kd.R_alloc|apply Kd.R_drewN|apply Kd.R_drew));exact HO_5.out⟩,⟨by repeat (first|(with_reducible first|exact HB.out|apply za_|apply zn_|apply zd_)|exact HB.out)⟩⟩
          ·rw [if_neg c10] at H
           have c10b0 : ((wrap64 (rd l0 (ji6))) == (wrap64 ((wrap64 (rd l0 x6_1)) + x7_2))) = false:=beq_eq_false_iff_ne.mpr c10
           have c10b1 : ((wrap64 (rd l0 (ji6))) != (wrap64 ((wrap64 (rd l0 x6_1)) + x7_2))) = true:=bne_iff_ne.mpr c10
           by_cases c12 : x7_2 ≥ 3
           ·rw [if_pos c12] at H
            have c12b0 : decide (3 ≤ x7_2) = true:=decide_eq_true c12
            clear c12
            obtain ⟨ji13,hji13⟩ : ∃ j_ : Int,(wrap64 ((ji6) - 1)) = j_:=⟨_,rfl⟩
            replace H : (if 0 ≤ (ji13) then (if (ji13) < (l0.length : Int) then ((some (([rd l0 x6_1,45,rd l0 (ji13)] : List Int) : List Int)).bind fun y172 => (if x5_1.length + y172.length < 140737488355328 then (impl_SetOf.l0 k2 l0 (x5_1 ++ y172) ji6) else (none))) else (none)) else (none)) = some (r1,r2):=by first|(rw [hji13] at H;exact H)|(simp only [hji13] at H ⊢;exact H)
            have hji13w : (IntKind.i64.wrap ((ji6) - 1)) = ji13:=(i64_w _).trans hji13
            by_cases c14 : 0 ≤ (ji13)
            ·rw [if_pos c14] at H
             have c14b0 : decide (0 ≤ (ji13)) = true:=decide_eq_true c14
             clear c14
             by_cases c15 : (ji13) < (l0.length : Int)
             ·rw [if_pos c15] at H
              have c15b0 : decide ((ji13) < (l0.length : Int)) = true:=decide_eq_true c15
              clear c15
              obtain ⟨y172,hy172⟩ : ∃ y_ : List Int,y_ = (([rd l0 x6_1,45,rd l0 (ji13)] : List Int)):=⟨_,rfl⟩
              replace H : (if x5_1.length + y172.length < 140737488355328 then (impl_SetOf.l0 k2 l0 (x5_1 ++ y172) ji6) else (none)) = some (r1,r2):=by first|(rw [hy172];with_reducible exact H)|(have H2_:=(Option.bind_some _ _).symm.trans H;rw [hy172];with_reducible exact H2_)|(have H2_:=(Option.bind_some _ _).symm.trans H;with_reducible exact H2_)|with_reducible exact H|(rw [hy172];exact H)|exact H
              have Ny172:=zm_ hy172
              clear hy172
              by_cases c16 : x5_1.length + y172.length < 140737488355328
              ·rw [if_pos c16] at H
               have LMc16:=zm_ c16
               clear c16
               obtain ⟨y175,hy175⟩ : ∃ y_ : List Int,y_ = (x5_1 ++ y172):=⟨_,rfl⟩
               replace H : (impl_SetOf.l0 k2 l0 y175 ji6) = some (r1,r2):=by first|(rw [hy175];with_reducible exact H)|(have H2_:=(Option.bind_some _ _).symm.trans H;rw [hy175];with_reducible exact H2_)|(have H2_:=(Option.bind_some _ _).symm.trans H;with_reducible exact H2_)|with_reducible exact H|(rw [hy175];exact H)|exact H
               have Ny175:=zm_ hy175
               clear hy175
               have H':=zm_ H
               clear H
               try go_wp2
               have n0_:=zm_ (Kd.R_drew HO_5.out)
               have n1_:=zm_ (zd_ HB.out)
               clear HO_5
               clear HB
               have HO_5:=n0_
               have HB:=n1_
               clear n0_ n1_
               have p168 : 0 ≤ ((ji6) : Int):=zo_
               have q168 : (ji6) < (l0.length : Int):=zo_
               obtain ⟨ad168,e168,hx168_0⟩:=Kd.at_int HR0.out (ji6) p168 q168
               have hw168_0:=hx168_0
               cases e168
               replace hx168_0:=(HB.out.cell (zb_ w _ hx168_0)).trans hx168_0
               replace p168:=eq_true p168
               replace q168:=eq_true q168
               have p169 : 0 ≤ (x6_1 : Int):=zo_
               have q169 : x6_1 < (l0.length : Int):=zo_
               obtain ⟨ad169,e169,hx169_0⟩:=Kd.at_int HR0.out x6_1 p169 q169
               have hw169_0:=hx169_0
               obtain rfl : ad168 = ad169:=(by injection e169)
               replace hx169_0:=(HB.out.cell (zb_ w _ hx169_0)).trans hx169_0
               replace p169:=eq_true p169
               replace q169:=eq_true q169
               refine start_ (n:=23) (S:=fun w' => w'.cell? (ad168.add ((ji6)).toNat) = some (.int .u8 (rd l0 (ji6))) ∧ w'.cell? (ad168.add (x6_1).toNat) = some (.int .u8 (rd l0 x6_1))) (ds:=[]) #[false,false,false,false,false,false,false,false,false,false,false,false,false,false,false,false,false,false,false,false,false,false,false] (by kernel_rfl) rfl rfl ⟨((HB.out.cell (zb_ w _ hw168_0)).trans hw168_0),((HB.out.cell (zb_ w _ hw169_0)).trans hw169_0)⟩ (fun hHeld => ?_);refine with_tabW impl_SetOf.tab8 impl_SetOf.bits8 (fun HT_ HW_ => ?_)
               generalize wr.drew = w17 at HO_5 HB hx168_0 hx169_0 hHeld ⊢
               refine pure_ (i:=0) (N:=some 21) (v:=?_) (a':=?_) #[true,false,false,false,false,false,false,false,false,false,false,false,false,false,false,false,false,false,false,false,false,false,false] rfl rfl (any_of HT_.out (by kernel_rfl)) (fun _ _ _ h => h) (Or.inl ⟨by rfl,?_⟩) ?_ ?_
               rotate_left
               ·intro w'
                go_simp
                with_reducible rfl
               rotate_left
               ·simp only [Act.put,List.setIfInBounds_toArray,List.set_cons_zero,List.set_cons_succ,i64_w,i32_w,IntKind.wrap_u8]
                rfl
               refine pure_ (i:=1) (N:=some 22) (v:=?_) (a':=?_) #[true,true,false,false,false,false,false,false,false,false,false,false,false,false,false,false,false,false,false,false,false,false,false] rfl rfl (any_of HT_.out (by kernel_rfl)) (fun _ _ _ h => h) (Or.inl ⟨by rfl,?_⟩) ?_ ?_
               rotate_left
               ·intro w'
                go_simp
                with_reducible rfl
               rotate_left
               ·simp only [Act.put,List.setIfInBounds_toArray,List.set_cons_zero,List.set_cons_succ,i64_w,i32_w,IntKind.wrap_u8]
                rfl
               refine pure_ (i:=2) (N:=some 23) (v:=?_) (a':=?_) #[true,true,true,false,false,false,false,false,false,false,false,false,false,false,false,false,false,false,false,false,false,false,false] rfl rfl (any_of HT_.out (by kernel_rfl)) (fun _ _ _ h => h) (Or.inl ⟨by rfl,?_⟩) ?_ ?_
               rotate_left
               ·intro w'
                go_simp
                with_reducible rfl
               rotate_left
               ·simp only [Act.put,List.setIfInBounds_toArray,List.set_cons_zero,List.set_cons_succ,i64_w,i32_w,IntKind.wrap_u8]
                rfl
               refine pure_ (i:=3) (N:=some 24) (v:=?_) (a':=?_) #[true,true,true,true,false,false,false,false,false,false,false,false,false,false,false,false,false,false,false,false,false,false,false] rfl rfl (any_of HT_.out (by kernel_rfl)) (fun _ _ _ h => h) (Or.inl ⟨by rfl,?_⟩) ?_ ?_
               rotate_left
               ·intro w'
                go_simp
                with_reducible rfl
               rotate_left
               ·simp only [Act.put,List.setIfInBounds_toArray,List.set_cons_zero,List.set_cons_succ,i64_w,i32_w,IntKind.wrap_u8]
                rfl
               refine pure_ (i:=4) (N:=some 25) (v:=?_) (a':=?_) #[true,true,true,true,true,false,false,false,false,false,false,false,false,false,false,false,false,false,false,false,false,false,false] rfl rfl (any_of HT_.out (by kernel_rfl)) (fun _ _ _ h => h) (Or.inl ⟨by rfl,?_⟩) ?_ ?_
               rotate_left
               ·intro w'
                go_simp
                with_reducible rfl
               rotate_left
               ·simp only [Act.put,List.setIfInBounds_toArray,List.set_cons_zero,List.set_cons_succ,i64_w,i32_w,IntKind.wrap_u8]
                rfl
               refine pure_ (i:=5) (N:=some 26) (v:=?_) (a':=?_) #[true,true,true,true,true,true,false,false,false,false,false,false,false,false,false,false,false,false,false,false,false,false,false] rfl rfl (any_of HT_.out (by kernel_rfl)) (fun _ _ _ h => h) (Or.inl ⟨by rfl,?_⟩) ?_ ?_
               rotate_left
               ·intro w'
                go_simp
                with_reducible rfl
               rotate_left
               ·simp only [Act.put,List.setIfInBounds_toArray,List.set_cons_zero,List.set_cons_succ,i64_w,i32_w,IntKind.wrap_u8]
                rfl
               refine pure_ (i:=6) (N:=some 27) (v:=?_) (a':=?_) #[true,true,true,true,true,true,true,false,false,false,false,false,false,false,false,false,false,false,false,false,false,false,false] rfl rfl (any_of HT_.out (by kernel_rfl)) (fun _ _ _ h => h) (Or.inl ⟨by rfl,?_⟩) ?_ ?_
               rotate_left
               ·intro w'
                go_simp
                with_reducible rfl
               rotate_left
               ·simp only [Act.put,List.setIfInBounds_toArray,List.set_cons_zero,List.set_cons_succ,i64_w,i32_w,IntKind.wrap_u8]
                rfl
               refine pure_ (i:=7) (N:=some 28) (v:=?_) (a':=?_) #[true,true,true,true,true,true,true,true,false,false,false,false,false,false,false,false,false,false,false,false,false,false,false] rfl rfl (any_of HT_.out (by kernel_rfl)) (fun _ _ _ h => h) (Or.inl ⟨by rfl,?_⟩) ?_ ?_
               rotate_left
               ·intro w'
                go_simp
                with_reducible rfl
               rotate_left
               ·simp only [Act.put,List.setIfInBounds_toArray,List.set_cons_zero,List.set_cons_succ,i64_w,i32_w,IntKind.wrap_u8]
                rfl
               refine pure_ (i:=8) (N:=some 29) (v:=?_) (a':=?_) #[true,true,true,true,true,true,true,true,true,false,false,false,false,false,false,false,false,false,false,false,false,false,false] rfl rfl (any_of HT_.out (by kernel_rfl)) (fun _ _ _ h => h) (Or.inl ⟨by rfl,?_⟩) ?_ ?_
               rotate_left
               ·intro w'
                go_simp
                with_reducible rfl
               rotate_left
               ·simp only [Act.put,List.setIfInBounds_toArray,List.set_cons_zero,List.set_cons_succ,i64_w,i32_w,IntKind.wrap_u8]
                rfl
               refine pure_ (i:=9) (N:=some 30) (v:=?_) (a':=?_) #[true,true,true,true,true,true,true,true,true,true,false,false,false,false,false,false,false,false,false,false,false,false,false] rfl rfl (any_of HT_.out (by kernel_rfl)) (fun _ _ _ h => h) (Or.inl ⟨by rfl,?_⟩) ?_ ?_
               rotate_left
               ·intro w'
                go_simp
                with_reducible rfl
               rotate_left
               ·simp only [Act.put,List.setIfInBounds_toArray,List.set_cons_zero,List.set_cons_succ,i64_w,i32_w,IntKind.wrap_u8]
                rfl
               refine pure_ (i:=10) (N:=some 31) (v:=?_) (a':=?_) #[true,true,true,true,true,true,true,true,true,true,true,false,false,false,false,false,false,false,false,false,false,false,false] rfl rfl (any_of HT_.out (by kernel_rfl)) (fun _ _ _ h => h) (Or.inl ⟨by rfl,?_⟩) ?_ ?_
               rotate_left
               ·intro w'
                go_simp
                with_reducible rfl
               rotate_left
               ·simp only [Act.put,List.setIfInBounds_toArray,List.set_cons_zero,List.set_cons_succ,i64_w,i32_w,IntKind.wrap_u8]
                rfl
               refine pure_ (i:=11) (N:=some 32) (v:=?_) (a':=?_) #[true,true,true,true,true,true,true,true,true,true,true,true,false,false,false,false,false,false,false,false,false,false,false] rfl rfl (any_of HT_.out (by kernel_rfl)) (fun _ _ _ h => h) (Or.inl ⟨by rfl,?_⟩) ?_ ?_
               rotate_left
               ·intro w'
                go_simp
                with_reducible rfl
               rotate_left
               ·simp only [Act.put,List.setIfInBounds_toArray,List.set_cons_zero,List.set_cons_succ,i64_w,i32_w,IntKind.wrap_u8]
                rfl
               refine pure_ (i:=14) (N:=some 35) (v:=?_) (a':=?_) #[true,true,true,true,true,true,true,true,true,true,true,true,false,false,true,false,false,false,false,false,false,false,false] rfl rfl (any_of HT_.out (by kernel_rfl)) (fun _ _ _ h => h) (Or.inl ⟨by rfl,?_⟩) ?_ ?_
               rotate_left
               ·intro w'
                go_simp
                with_reducible rfl
               rotate_left
               ·simp only [Act.put,List.setIfInBounds_toArray,List.set_cons_zero,List.set_cons_succ,i64_w,i32_w,IntKind.wrap_u8]
                rfl
               refine pure_ (i:=15) (N:=some 36) (v:=?_) (a':=?_) #[true,true,true,true,true,true,true,true,true,true,true,true,false,false,true,true,false,false,false,false,false,false,false] rfl rfl (any_of HT_.out (by kernel_rfl)) (fun _ _ _ h => h) (Or.inl ⟨by rfl,?_⟩) ?_ ?_
               rotate_left
               ·intro w'
                go_simp
                with_reducible rfl
               rotate_left
               ·simp only [Act.put,List.setIfInBounds_toArray,List.set_cons_zero,List.set_cons_succ,i64_w,i32_w,IntKind.wrap_u8]
                rfl
               refine pure_ (i:=16) (N:=some 37) (v:=?_) (a':=?_) #[true,true,true,true,true,true,true,true,true,true,true,true,false,false,true,true,true,false,false,false,false,false,false] rfl rfl (any_of HT_.out (by kernel_rfl)) (fun _ _ _ h => h) (Or.inl ⟨by rfl,?_⟩) ?_ ?_
               rotate_left
               ·intro w'
                go_simp
                with_reducible rfl
               rotate_left
               ·simp only [Act.put,List.setIfInBounds_toArray,List.set_cons_zero,List.set_cons_succ,i64_w,i32_w,IntKind.wrap_u8]
                rfl
               refine pure_ (i:=19) (N:=some 40) (v:=?_) (a':=?_) #[true,true,true,true,true,true,true,true,true,true,true,true,false,false,true,true,true,false,false,true,false,false,false] rfl rfl (any_of HT_.out (by kernel_rfl)) (fun _ _ _ h => h) (Or.inl ⟨by rfl,?_⟩) ?_ ?_
               rotate_left
               ·intro w'
                go_simp
                with_reducible rfl
               rotate_left
               ·simp only [Act.put,List.setIfInBounds_toArray,List.set_cons_zero,List.set_cons_succ,i64_w,i32_w,IntKind.wrap_u8]
                rfl
               refine take_ (i:=12) (N:=some 33) (v:=?_) (a':=?_) #[true,true,true,true,true,true,true,true,true,true,true,true,true,false,true,true,true,false,false,true,false,false,false] rfl rfl (take_ofW HT_.out HW_.out (by kernel_rfl)) (fun _ _ _ h => h) (Or.inl ⟨by rfl,?_⟩) hHeld ?_ ?_
               rotate_left
               ·rintro w' ⟨s0,s1⟩
                go_simp
                with_reducible rfl
               rotate_left
               ·simp only [Act.put,List.setIfInBounds_toArray,List.set_cons_zero,List.set_cons_succ,i64_w,i32_w,IntKind.wrap_u8]
                rfl
               refine pure_ (i:=13) (N:=some 34) (v:=?_) (a':=?_) #[true,true,true,true,true,true,true,true,true,true,true,true,true,true,true,true,true,false,false,true,false,false,false] rfl rfl (any_of HT_.out (by kernel_rfl)) (fun _ _ _ h => h) (Or.inl ⟨by rfl,?_⟩) ?_ ?_
               rotate_left
               ·intro w'
                go_simp
                with_reducible rfl
               rotate_left
               ·simp only [Act.put,List.setIfInBounds_toArray,List.set_cons_zero,List.set_cons_succ,i64_w,i32_w,IntKind.wrap_u8]
                rfl
               refine take_ (i:=17) (N:=some 38) (v:=?_) (a':=?_) #[true,true,true,true,true,true,true,true,true,true,true,true,true,true,true,true,true,true,false,true,false,false,false] rfl rfl (take_ofW HT_.out HW_.out (by kernel_rfl)) (fun _ _ _ h => h) (Or.inl ⟨by rfl,?_⟩) hHeld ?_ ?_
               rotate_left
               ·rintro w' ⟨s0,s1⟩
                go_simp
                with_reducible rfl
               rotate_left
               ·simp only [Act.put,List.setIfInBounds_toArray,List.set_cons_zero,List.set_cons_succ,i64_w,i32_w,IntKind.wrap_u8]
                rfl
               refine pure_ (i:=18) (N:=some 39) (v:=?_) (a':=?_) #[true,true,true,true,true,true,true,true,true,true,true,true,true,true,true,true,true,true,true,true,false,false,false] rfl rfl (any_of HT_.out (by kernel_rfl)) (fun _ _ _ h => h) (Or.inl ⟨by rfl,?_⟩) ?_ ?_
               rotate_left
               ·intro w'
                go_simp
                with_reducible rfl
               rotate_left
               ·simp only [Act.put,List.setIfInBounds_toArray,List.set_cons_zero,List.set_cons_succ,i64_w,i32_w,IntKind.wrap_u8]
                rfl
               refine pure_ (i:=20) (N:=some 41) (v:=?_) (a':=?_) #[true,true,true,true,true,true,true,true,true,true,true,true,true,true,true,true,true,true,true,true,true,false,false] rfl rfl (any_of HT_.out (by kernel_rfl)) (fun _ _ _ h => h) (Or.inl ⟨by rfl,?_⟩) ?_ ?_
               rotate_left
               ·intro w'
                go_simp
                with_reducible rfl
               rotate_left
               ·simp only [Act.put,List.setIfInBounds_toArray,List.set_cons_zero,List.set_cons_succ,i64_w,i32_w,IntKind.wrap_u8]
                rfl
               refine pure_ (i:=21) (N:=some 42) (v:=?_) (a':=?_) #[true,true,true,true,true,true,true,true,true,true,true,true,true,true,true,true,true,true,true,true,true,true,false] rfl rfl (any_of HT_.out (by kernel_rfl)) (fun _ _ _ h => h) (Or.inl ⟨by rfl,?_⟩) ?_ ?_
               rotate_left
               ·intro w'
                go_simp
                with_reducible rfl
               rotate_left
               ·simp only [Act.put,List.setIfInBounds_toArray,List.set_cons_zero,List.set_cons_succ,i64_w,i32_w,IntKind.wrap_u8]
                rfl
               refine pure_ (i:=22) (N:=some 43) (v:=?_) (a':=?_) #[true,true,true,true,true,true,true,true,true,true,true,true,true,true,true,true,true,true,true,true,true,true,true] rfl rfl (any_of HT_.out (by kernel_rfl)) (fun _ _ _ h => h) (Or.inl ⟨by rfl,?_⟩) ?_ ?_
               rotate_left
               ·intro w'
                go_simp
                with_reducible rfl
               rotate_left
               ·simp only [Act.put,List.setIfInBounds_toArray,List.set_cons_zero,List.set_cons_succ,i64_w,i32_w,IntKind.wrap_u8]
                rfl
               refine done_ (done_of HT_.out (by kernel_rfl)) ?_
               try go_wp2
               have n0_:=zm_ (Kd.R_drew HO_5.out)
               have n1_:=zm_ (zd_ HB.out)
               clear HO_5
               clear HB
               have HO_5:=n0_
               have HB:=n1_
               clear n0_ n1_
               have p170 : 0 ≤ (x6_1 : Int):=zo_
               have q170 : x6_1 < (l0.length : Int):=zo_
               obtain ⟨ad170,e170,hx170_0⟩:=Kd.at_int HR0.out x6_1 p170 q170
               have hw170_0:=hx170_0
               obtain rfl : ad168 = ad170:=(by injection e170)
               replace hx170_0:=(HB.out.cell (zb_ w _ hx170_0)).trans hx170_0
               replace p170:=eq_true p170
               replace q170:=eq_true q170
               have p171 : 0 ≤ ((ji13) : Int):=zo_
               have q171 : (ji13) < (l0.length : Int):=zo_
               obtain ⟨ad171,e171,hx171_0⟩:=Kd.at_int HR0.out (ji13) p171 q171
               have hw171_0:=hx171_0
               obtain rfl : ad168 = ad171:=(by injection e171)
               replace hx171_0:=(HB.out.cell (zb_ w _ hx171_0)).trans hx171_0
               replace p171:=eq_true p171
               replace q171:=eq_true q171
               refine start_ (n:=15) (S:=fun w' => w'.cell? (ad168.add (x6_1).toNat) = some (.int .u8 (rd l0 x6_1)) ∧ w'.cell? (ad168.add ((ji13)).toNat) = some (.int .u8 (rd l0 (ji13)))) (ds:=[]) #[false,false,false,false,false,false,false,false,false,false,false,false,false,false,false] (by kernel_rfl) rfl rfl ⟨((HB.out.cell (zb_ w _ hw170_0)).trans hw170_0),((HB.out.cell (zb_ w _ hw171_0)).trans hw171_0)⟩ (fun hHeld => ?_);refine with_tabW impl_SetOf.tab11 impl_SetOf.bits11 (fun HT_ HW_ => ?_)
               generalize w17.drew = w18 at HO_5 HB hx170_0 hx171_0 hHeld ⊢
               refine pure_ (i:=0) (N:=some 48) (v:=?_) (a':=?_) #[true,false,false,false,false,false,false,false,false,false,false,false,false,false,false] rfl rfl (any_of HT_.out (by kernel_rfl)) (fun _ _ _ h => h) (Or.inl ⟨by rfl,?_⟩) ?_ ?_
               rotate_left
               ·intro w'
                go_simp
                with_reducible rfl
               rotate_left
               ·simp only [Act.put,List.setIfInBounds_toArray,List.set_cons_zero,List.set_cons_succ,i64_w,i32_w,IntKind.wrap_u8]
                rfl
               refine pure_ (i:=1) (N:=some 49) (v:=?_) (a':=?_) #[true,true,false,false,false,false,false,false,false,false,false,false,false,false,false] rfl rfl (any_of HT_.out (by kernel_rfl)) (fun _ _ _ h => h) (Or.inl ⟨by rfl,?_⟩) ?_ ?_
               rotate_left
               ·intro w'
                go_simp
                with_reducible rfl
               rotate_left
               ·simp only [Act.put,List.setIfInBounds_toArray,List.set_cons_zero,List.set_cons_succ,i64_w,i32_w,IntKind.wrap_u8]
                rfl
               refine pure_ (i:=2) (N:=some 50) (v:=?_) (a':=?_) #[true,true,true,false,false,false,false,false,false,false,false,false,false,false,false] rfl rfl (any_of HT_.out (by kernel_rfl)) (fun _ _ _ h => h) (Or.inl ⟨by rfl,?_⟩) ?_ ?_
               rotate_left
               ·intro w'
                go_simp
                with_reducible rfl
               rotate_left
               ·simp only [Act.put,List.setIfInBounds_toArray,List.set_cons_zero,List.set_cons_succ,i64_w,i32_w,IntKind.wrap_u8]
                rfl
               refine pure_ (i:=3) (N:=some 51) (v:=?_) (a':=?_) #[true,true,true,true,false,false,false,false,false,false,false,false,false,false,false] rfl rfl (any_of HT_.out (by kernel_rfl)) (fun _ _ _ h => h) (Or.inl ⟨by rfl,?_⟩) ?_ ?_
               rotate_left
               ·intro w'
                go_simp
                with_reducible rfl
               rotate_left
               ·simp only [Act.put,List.setIfInBounds_toArray,List.set_cons_zero,List.set_cons_succ,i64_w,i32_w,IntKind.wrap_u8]
                rfl
               refine pure_ (i:=5) (N:=some 53) (v:=?_) (a':=?_) #[true,true,true,true,false,true,false,false,false,false,false,false,false,false,false] rfl rfl (any_of HT_.out (by kernel_rfl)) (fun _ _ _ h => h) (Or.inl ⟨by rfl,?_⟩) ?_ ?_
               rotate_left
               ·intro w'
                go_simp
                with_reducible rfl
               rotate_left
               ·simp only [Act.put,List.setIfInBounds_toArray,List.set_cons_zero,List.set_cons_succ,i64_w,i32_w,IntKind.wrap_u8]
                rfl
               refine pure_ (i:=6) (N:=some 54) (v:=?_) (a':=?_) #[true,true,true,true,false,true,true,false,false,false,false,false,false,false,false] rfl rfl (any_of HT_.out (by kernel_rfl)) (fun _ _ _ h => h) (Or.inl ⟨by rfl,?_⟩) ?_ ?_
               rotate_left
               ·intro w'
                go_simp
                with_reducible rfl
               rotate_left
               ·simp only [Act.put,List.setIfInBounds_toArray,List.set_cons_zero,List.set_cons_succ,i64_w,i32_w,IntKind.wrap_u8]
                rfl
               refine pure_ (i:=7) (N:=some 55) (v:=?_) (a':=?_) #[true,true,true,true,false,true,true,true,false,false,false,false,false,false,false] rfl rfl (any_of HT_.out (by kernel_rfl)) (fun _ _ _ h => h) (Or.inl ⟨by rfl,?_⟩) ?_ ?_
               rotate_left
               ·intro w'
                go_simp
                with_reducible rfl
               rotate_left
               ·simp only [Act.put,List.setIfInBounds_toArray,List.set_cons_zero,List.set_cons_succ,i64_w,i32_w,IntKind.wrap_u8]
                rfl
               refine pure_ (i:=8) (N:=some 56) (v:=?_) (a':=?_) #[true,true,true,true,false,true,true,true,true,false,false,false,false,false,false] rfl rfl (any_of HT_.out (by kernel_rfl)) (fun _ _ _ h => h) (Or.inl ⟨by rfl,?_⟩) ?_ ?_
               rotate_left
               ·intro w'
                go_simp
                with_reducible rfl
               rotate_left
               ·simp only [Act.put,List.setIfInBounds_toArray,List.set_cons_zero,List.set_cons_succ,i64_w,i32_w,IntKind.wrap_u8]
                rfl
               refine pure_ (i:=9) (N:=some 57) (v:=?_) (a':=?_) #[true,true,true,true,false,true,true,true,true,true,false,false,false,false,false] rfl rfl (any_of HT_.out (by kernel_rfl)) (fun _ _ _ h => h) (Or.inl ⟨by rfl,?_⟩) ?_ ?_
               rotate_left
               ·intro w'
                go_simp
                with_reducible rfl
               rotate_left
               ·simp only [Act.put,List.setIfInBounds_toArray,List.set_cons_zero,List.set_cons_succ,i64_w,i32_w,IntKind.wrap_u8]
                rfl
               refine pure_ (i:=10) (N:=some 58) (v:=?_) (a':=?_) #[true,true,true,true,false,true,true,true,true,true,true,false,false,false,false] rfl rfl (any_of HT_.out (by kernel_rfl)) (fun _ _ _ h => h) (Or.inl ⟨by rfl,?_⟩) ?_ ?_
               rotate_left
               ·intro w'
                go_simp
                with_reducible rfl
               rotate_left
               ·simp only [Act.put,List.setIfInBounds_toArray,List.set_cons_zero,List.set_cons_succ,i64_w,i32_w,IntKind.wrap_u8]
                rfl
               refine take_ (i:=4) (N:=some 52) (v:=?_) (a':=?_) #[true,true,true,true,true,true,true,true,true,true,true,false,false,false,false] rfl rfl (take_ofW HT_.out HW_.out (by kernel_rfl)) (fun _ _ _ h => h) (Or.inl ⟨by rfl,?_⟩) hHeld ?_ ?_
               rotate_left
               ·rintro w' ⟨s0,s1⟩
                go_simp
                with_reducible rfl
               rotate_left
               ·simp only [Act.put,List.setIfInBounds_toArray,List.set_cons_zero,List.set_cons_succ,i64_w,i32_w,IntKind.wrap_u8]
                rfl
               refine take_ (i:=11) (N:=some 59) (v:=?_) (a':=?_) #[true,true,true,true,true,true,true,true,true,true,true,true,false,false,false] rfl rfl (take_ofW HT_.out HW_.out (by kernel_rfl)) (fun _ _ _ h => h) (Or.inl ⟨by rfl,?_⟩) hHeld ?_ ?_
               rotate_left
               ·rintro w' ⟨s0,s1⟩
                go_simp
                with_reducible rfl
               rotate_left
               ·simp only [Act.put,List.setIfInBounds_toArray,List.set_cons_zero,List.set_cons_succ,i64_w,i32_w,IntKind.wrap_u8]
                rfl
               refine one_ (i:=12) (N:=some 60) #[true,true,true,true,true,true,true,true,true,true,true,true,true,false,false] rfl rfl (one_of HT_.out (by kernel_rfl)) (by decide) (fun K hK => ?_)
               refine Kd.R_lit_step (Kd.int .u8) _ 5 ?hg (N:=60) ?hd (xs:=([rd l0 x6_1,45,rd l0 (ji13)] : List Int)) (inner:=[.int .u8 (rd l0 x6_1),.int .u8 45,.int .u8 (rd l0 (ji13))]) (ok:=fun _ => True) (okp:=fun _ => True) ?hr ?hp (fun _ hk => hk) trivial (Below.refl _ _) (Nat.le_refl _) (by simp) ?_;(case hd => rfl);(case hg => rfl);(case hr => first|(go_simp;done)|(go_simp;rfl));(case hp => exact (Reps.one (show Kd.M (Kd.int .u8) _ _ _ (rd l0 x6_1) [.int .u8 (rd l0 x6_1)] from rfl) (Reps.one (show Kd.M (Kd.int .u8) _ _ _ 45 [.int .u8 45] from rfl) (Reps.one (show Kd.M (Kd.int .u8) _ _ _ (rd l0 (ji13)) [.int .u8 (rd l0 (ji13))] from rfl) (Reps.none _ _)))))
               intro v173 w19 ho20 hb hg_ hnew_
               clear hg_ hnew_
               (first|rw [← Ny172.out] at ho20|(simp only [Int.reduceToNat] at ho20;rw [← Ny172.out] at ho20))
               have n0_:=zm_ (Kd.R_elder' (by (with_reducible repeat (first|apply Kd.R_alloc|apply Kd.R_drewN|apply Kd.R_drew));exact HO_5.out) (Kd.R_base ho20) hb)
               have n1_:=zm_ (Kd.R_lower (Kd.R_new' ho20 (Kd.R_lt (by (with_reducible repeat (first|apply Kd.R_alloc|apply Kd.R_drewN|apply Kd.R_drew));exact HO_5.out))) (below_size zB_))
               have n2_:=zm_ (below_step zB_ hb)
               clear HO_5
               clear HB
               have HO_5:=n0_
               have HO174:=n1_
               have HB:=n2_
               clear n0_ n1_ n2_
               clear hb ho20
               obtain ⟨Ao22,co22,eo22⟩:=Kd.R_slice HO174.out
               (first|subst eo22|(injection eo22 with f1_ f2_ f3_;have f4_:=f1_.symm;have f5_:=f3_.symm;clear f1_ f2_ f3_;subst f4_;subst f5_))
               refine hK.out _ _ ⟨((HB.out.cell (zb_ w _ hw170_0)).trans hw170_0),((HB.out.cell (zb_ w _ hw171_0)).trans hw171_0)⟩ (fun hHeld => ?_)
               clear hK K
               refine norm_ (a':=?_) ?_ ?_
               rotate_left
               ·show Act.put _ (some 60) _ = _
                simp only [Act.put,List.setIfInBounds_toArray,List.set_cons_zero,List.set_cons_succ,i64_w,i32_w,IntKind.wrap_u8]
                rfl
               refine one_ (i:=13) (N:=some 61) #[true,true,true,true,true,true,true,true,true,true,true,true,true,true,false] rfl rfl (one_of HT_.out (by kernel_rfl)) (by decide) (fun K hK => ?_)
               refine Kd.R_append_rows_step (Kd.int .u8) (w0:=w) w.heap.size (by rfl) (.tmp 48) (.tmp 60) 29 5 (.int .u8 0) 1 rfl Try.underlying29 info5 rfl (by decide) (by omega) u5 x5_1 y172 _ _ _ (fun k_ => some k_ ≠ (.slice Ao22 y172.length co22 : Value).ownBlock) (fun _ => False) rfl rfl ?aO ?aR (fun _ _ h => h) (fun _ h => h.elim) ?aF ?aB ?aS ?aL ?_
               (case aR => repeat (first|exact (Kd.R_reads' HO174.out).2.2|(with_reducible refine Kd.C_alloc ?_ _)|(with_reducible refine Kd.C_drewN ?_ _)|(with_reducible refine Kd.C_drew ?_)))
               (case aB => exact zB_)
               (case aF => exact (fun k_ hk => Kd.fresh' (Kd.R_lt (by (with_reducible repeat (first|apply Kd.R_alloc|apply Kd.R_drewN|apply Kd.R_drew));exact HO174.out)) k_ hk))
               (case aO => exact (by (with_reducible repeat (first|apply Kd.R_alloc|apply Kd.R_drewN|apply Kd.R_drew));exact Kd.R_mono HO_5.out (fun _ hk => hk.2)))
               (case aS => exact (below_size zB_))
               (case aL => have:=LMc16.out;omega)
               intro v176 w21 ho hb hg hat
               rw [← Ny175.out] at ho
               have n0_:=zm_ (Kd.R_after (ok:=(fun _ => True)) (by (with_reducible repeat (first|apply Kd.R_alloc|apply Kd.R_drewN|apply Kd.R_drew));exact HO174.out) hg hat)
               have n1_:=zm_ (hb)
               have n2_:=zm_ (ho)
               clear HO174
               clear HB
               clear HO_5
               have HO174:=n0_
               have HB:=n1_
               have HO177:=n2_
               clear n0_ n1_ n2_
               clear ho hb hg hat
               refine hK.out _ _ ⟨((HB.out.cell (zb_ w _ hw170_0)).trans hw170_0),((HB.out.cell (zb_ w _ hw171_0)).trans hw171_0)⟩ (fun hHeld => ?_)
               clear hK K
               refine norm_ (a':=?_) ?_ ?_
               rotate_left
               ·show Act.put _ (some 61) _ = _
                simp only [Act.put,List.setIfInBounds_toArray,List.set_cons_zero,List.set_cons_succ,i64_w,i32_w,IntKind.wrap_u8]
                rfl
               refine pure_ (i:=14) (N:=some 5) (v:=?_) (a':=?_) #[true,true,true,true,true,true,true,true,true,true,true,true,true,true,true] rfl rfl (any_of HT_.out (by kernel_rfl)) (fun _ _ _ h => h) (Or.inl ⟨by rfl,?_⟩) ?_ ?_
               rotate_left
               ·intro w'
                go_simp
                with_reducible rfl
               rotate_left
               ·simp only [Act.put,List.setIfInBounds_toArray,List.set_cons_zero,List.set_cons_succ,i64_w,i32_w,IntKind.wrap_u8]
                rfl
               refine done_ (done_of HT_.out (by kernel_rfl)) ?_
               try go_wp2
               go_roundg k2
               case measure => have:=HK1.out;have:=HK2.out;omega
               case rel => exact ⟨(y175),(ji6),(by first|rfl|(exact congrArg Value.bool (isEmpty_ne _))|(exact congrArg Value.bool (isEmpty_ne' _))|(exact congrArg Value.bool (isEmpty_eq _))|(simp;done)|(simp only [← hji6] <;> (first|rfl|simp))|(simp [*];done)),(by first|exact H'|(rw [hji6];exact H')|(simp only [hji6];exact H')),⟨by have:=HK1.out;have:=HK2.out;omega⟩,⟨by (with_reducible repeat (first|apply Kd.R_alloc|apply Kd.R_drewN|apply Kd.R_drew));exact Kd.R_mono HO177.out (fun _ hk => trivial)⟩,⟨by repeat (first|(with_reducible first|exact HB.out|apply za_|apply zn_|apply zd_)|exact HB.out)⟩⟩
              ·rw [if_neg c16] at H
               exact absurd H (by simp)
             ·rw [if_neg c15] at H
              exact absurd H (by simp)
            ·rw [if_neg c14] at H
             exact absurd H (by simp)
           ·rw [if_neg c12] at H
            have c12b0 : decide (3 ≤ x7_2) = false:=decide_eq_false c12
            clear c12
            have c23b0:=eq_true (zo_ : 0 ≤ x6_1)
            by_cases c24 : x6_1 ≤ (ji6)
            ·rw [if_pos c24] at H
             have c24b0:=eq_true c24
             have c24b1 : decide (x6_1 ≤ (ji6)) = true:=decide_eq_true c24
             clear c24
             by_cases c25 : (ji6) ≤ (l0.length : Int)
             ·rw [if_pos c25] at H
              have c25b0:=eq_true c25
              have c25b1 : decide ((ji6) ≤ (l0.length : Int)) = true:=decide_eq_true c25
              clear c25
              by_cases c26 : x5_1.length + ((l0.take ((ji6) : Int).toNat).drop (x6_1 : Int).toNat).length < 140737488355328
              ·rw [if_pos c26] at H
               have LMc26:=zm_ c26
               clear c26
               obtain ⟨y179,hy179⟩ : ∃ y_ : List Int,y_ = (x5_1 ++ ((l0.take ((ji6) : Int).toNat).drop (x6_1 : Int).toNat)):=⟨_,rfl⟩
               replace H : (impl_SetOf.l0 k2 l0 y179 ji6) = some (r1,r2):=by first|(rw [hy179];with_reducible exact H)|(have H2_:=(Option.bind_some _ _).symm.trans H;rw [hy179];with_reducible exact H2_)|(have H2_:=(Option.bind_some _ _).symm.trans H;with_reducible exact H2_)|with_reducible exact H|(rw [hy179];exact H)|exact H
               have Ny179:=zm_ hy179
               clear hy179
               have H':=zm_ H
               clear H
               try go_wp2
               have n0_:=zm_ (Kd.R_drew HO_5.out)
               have n1_:=zm_ (zd_ HB.out)
               clear HO_5
               clear HB
               have HO_5:=n0_
               have HB:=n1_
               clear n0_ n1_
               have p168 : 0 ≤ ((ji6) : Int):=zo_
               have q168 : (ji6) < (l0.length : Int):=zo_
               obtain ⟨ad168,e168,hx168_0⟩:=Kd.at_int HR0.out (ji6) p168 q168
               have hw168_0:=hx168_0
               cases e168
               replace hx168_0:=(HB.out.cell (zb_ w _ hx168_0)).trans hx168_0
               replace p168:=eq_true p168
               replace q168:=eq_true q168
               have p169 : 0 ≤ (x6_1 : Int):=zo_
               have q169 : x6_1 < (l0.length : Int):=zo_
               obtain ⟨ad169,e169,hx169_0⟩:=Kd.at_int HR0.out x6_1 p169 q169
               have hw169_0:=hx169_0
               obtain rfl : ad168 = ad169:=(by injection e169)
               replace hx169_0:=(HB.out.cell (zb_ w _ hx169_0)).trans hx169_0
               replace p169:=eq_true p169
               replace q169:=eq_true q169
               refine start_ (n:=23) (S:=fun w' => w'.cell? (ad168.add ((ji6)).toNat) = some (.int .u8 (rd l0 (ji6))) ∧ w'.cell? (ad168.add (x6_1).toNat) = some (.int .u8 (rd l0 x6_1))) (ds:=[]) #[false,false,false,false,false,false,false,false,false,false,false,false,false,false,false,false,false,false,false,false,false,false,false] (by kernel_rfl) rfl rfl ⟨((HB.out.cell (zb_ w _ hw168_0)).trans hw168_0),((HB.out.cell (zb_ w _ hw169_0)).trans hw169_0)⟩ (fun hHeld => ?_);refine with_tabW impl_SetOf.tab8 impl_SetOf.bits8 (fun HT_ HW_ => ?_)
               generalize wr.drew = w27 at HO_5 HB hx168_0 hx169_0 hHeld ⊢
               refine pure_ (i:=0) (N:=some 21) (v:=?_) (a':=?_) #[true,false,false,false,false,false,false,false,false,false,false,false,false,false,false,false,false,false,false,false,false,false,false] rfl rfl (any_of HT_.out (by kernel_rfl)) (fun _ _ _ h => h) (Or.inl ⟨by rfl,?_⟩) ?_ ?_
               rotate_left
               ·intro w'
                go_simp
                with_reducible rfl
               rotate_left
               ·simp only [Act.put,List.setIfInBounds_toArray,List.set_cons_zero,List.set_cons_succ,i64_w,i32_w,IntKind.wrap_u8]
                rfl
               refine pure_ (i:=1) (N:=some 22) (v:=?_) (a':=?_) #[true,true,false,false,false,false,false,false,false,false,false,false,false,false,false,false,false,false,false,false,false,false,false] rfl rfl (any_of HT_.out (by kernel_rfl)) (fun _ _ _ h => h) (Or.inl ⟨by rfl,?_⟩) ?_ ?_
               rotate_left
               ·intro w'
                go_simp
                with_reducible rfl
               rotate_left
               ·simp only [Act.put,List.setIfInBounds_toArray,List.set_cons_zero,List.set_cons_succ,i64_w,i32_w,IntKind.wrap_u8]
                rfl
               refine pure_ (i:=2) (N:=some 23) (v:=?_) (a':=?_) #[true,true,true,false,false,false,false,false,false,false,false,false,false,false,false,false,false,false,false,false,false,false,false] rfl rfl (any_of HT_.out (by kernel_rfl)) (fun _ _ _ h => h) (Or.inl ⟨by rfl,?_⟩) ?_ ?_
               rotate_left
               ·intro w'
                go_simp
                with_reducible rfl
               rotate_left
               ·simp only [Act.put,List.setIfInBounds_toArray,List.set_cons_zero,List.set_cons_succ,i64_w,i32_w,IntKind.wrap_u8]
                rfl
               refine pure_ (i:=3) (N:=some 24) (v:=?_) (a':=?_) #[true,true,true,true,false,false,false,false,false,false,false,false,false,false,false,false,false,false,false,false,false,false,false] rfl rfl (any_of HT_.out (by kernel_rfl)) (fun _ _ _ h => h) (Or.inl ⟨by rfl,?_⟩) ?_ ?_
               rotate_left
               ·intro w'
                go_simp
                with_reducible rfl
               rotate_left
               ·simp only [Act.put,List.setIfInBounds_toArray,List.set_cons_zero,List.set_cons_succ,i64_w,i32_w,IntKind.wrap_u8]
                rfl
               refine pure_ (i:=4) (N:=some 25) (v:=?_) (a':=?_) #[true,true,true,true,true,false,false,false,false,false,false,false,false,false,false,false,false,false,false,false,false,false,false] rfl rfl (any_of HT_.out (by kernel_rfl)) (fun _ _ _ h => h) (Or.inl ⟨by rfl,?_⟩) ?_ ?_
               rotate_left
               ·intro w'
                go_simp
                with_reducible rfl
               rotate_left
               ·simp only [Act.put,List.setIfInBounds_toArray,List.set_cons_zero,List.set_cons_succ,i64_w,i32_w,IntKind.wrap_u8]
                rfl
               refine pure_ (i:=5) (N:=some 26) (v:=?_) (a':=?_) #[true,true,true,true,true,true,false,false,false,false,false,false,false,false,false,false,false,false,false,false,false,false,false] rfl rfl (any_of HT_.out (by kernel_rfl)) (fun _ _ _ h => h) (Or.inl ⟨by rfl,?_⟩) ?_ ?_
               rotate_left
               ·intro w'
                go_simp
                with_reducible rfl
               rotate_left
               ·simp only [Act.put,List.setIfInBounds_toArray,List.set_cons_zero,List.set_cons_succ,i64_w,i32_w,IntKind.wrap_u8]
                rfl
               refine pure_ (i:=6) (N:=some 27) (v:=?_) (a':=?_) #[true,true,true,true,true,true,true,false,false,false,false,false,false,false,false,false,false,false,false,false,false,false,false] rfl rfl (any_of HT_.out (by kernel_rfl)) (fun _ _ _ h => h) (Or.inl ⟨by rfl,?_⟩) ?_ ?_
               rotate_left
               ·intro w'
                go_simp
                with_reducible rfl
               rotate_left
               ·simp only [Act.put,List.setIfInBounds_toArray,List.set_cons_zero,List.set_cons_succ,i64_w,i32_w,IntKind.wrap_u8]
                rfl
               refine pure_ (i:=7) (N:=some 28) (v:=?_) (a':=?_) #[true,true,true,true,true,true,true,true,false,false,false,false,false,false,false,false,false,false,false,false,false,false,false] rfl rfl (any_of HT_.out (by kernel_rfl)) (fun _ _ _ h => h) (Or.inl ⟨by rfl,?_⟩) ?_ ?_
               rotate_left
               ·intro w'
                go_simp
                with_reducible rfl
               rotate_left
               ·simp only [Act.put,List.setIfInBounds_toArray,List.set_cons_zero,List.set_cons_succ,i64_w,i32_w,IntKind.wrap_u8]
                rfl
               refine pure_ (i:=8) (N:=some 29) (v:=?_) (a':=?_) #[true,true,true,true,true,true,true,true,true,false,false,false,false,false,false,false,false,false,false,false,false,false,false] rfl rfl (any_of HT_.out (by kernel_rfl)) (fun _ _ _ h => h) (Or.inl ⟨by rfl,?_⟩) ?_ ?_
               rotate_left
               ·intro w'
                go_simp
                with_reducible rfl
               rotate_left
               ·simp only [Act.put,List.setIfInBounds_toArray,List.set_cons_zero,List.set_cons_succ,i64_w,i32_w,IntKind.wrap_u8]
                rfl
               refine pure_ (i:=9) (N:=some 30) (v:=?_) (a':=?_) #[true,true,true,true,true,true,true,true,true,true,false,false,false,false,false,false,false,false,false,false,false,false,false] rfl rfl (any_of HT_.out (by kernel_rfl)) (fun _ _ _ h => h) (Or.inl ⟨by rfl,?_⟩) ?_ ?_
               rotate_left
               ·intro w'
                go_simp
                with_reducible rfl
               rotate_left
               ·simp only [Act.put,List.setIfInBounds_toArray,List.set_cons_zero,List.set_cons_succ,i64_w,i32_w,IntKind.wrap_u8]
                rfl
               refine pure_ (i:=10) (N:=some 31) (v:=?_) (a':=?_) #[true,true,true,true,true,true,true,true,true,true,true,false,false,false,false,false,false,false,false,false,false,false,false] rfl rfl (any_of HT_.out (by kernel_rfl)) (fun _ _ _ h => h) (Or.inl ⟨by rfl,?_⟩) ?_ ?_
               rotate_left
               ·intro w'
                go_simp
                with_reducible rfl
               rotate_left
               ·simp only [Act.put,List.setIfInBounds_toArray,List.set_cons_zero,List.set_cons_succ,i64_w,i32_w,IntKind.wrap_u8]
                rfl
               refine pure_ (i:=11) (N:=some 32) (v:=?_) (a':=?_) #[true,true,true,true,true,true,true,true,true,true,true,true,false,false,false,false,false,false,false,false,false,false,false] rfl rfl (any_of HT_.out (by kernel_rfl)) (fun _ _ _ h => h) (Or.inl ⟨by rfl,?_⟩) ?_ ?_
               rotate_left
               ·intro w'
                go_simp
                with_reducible rfl
               rotate_left
               ·simp only [Act.put,List.setIfInBounds_toArray,List.set_cons_zero,List.set_cons_succ,i64_w,i32_w,IntKind.wrap_u8]
                rfl
               refine pure_ (i:=14) (N:=some 35) (v:=?_) (a':=?_) #[true,true,true,true,true,true,true,true,true,true,true,true,false,false,true,false,false,false,false,false,false,false,false] rfl rfl (any_of HT_.out (by kernel_rfl)) (fun _ _ _ h => h) (Or.inl ⟨by rfl,?_⟩) ?_ ?_
               rotate_left
               ·intro w'
                go_simp
                with_reducible rfl
               rotate_left
               ·simp only [Act.put,List.setIfInBounds_toArray,List.set_cons_zero,List.set_cons_succ,i64_w,i32_w,IntKind.wrap_u8]
                rfl
               refine pure_ (i:=15) (N:=some 36) (v:=?_) (a':=?_) #[true,true,true,true,true,true,true,true,true,true,true,true,false,false,true,true,false,false,false,false,false,false,false] rfl rfl (any_of HT_.out (by kernel_rfl)) (fun _ _ _ h => h) (Or.inl ⟨by rfl,?_⟩) ?_ ?_
               rotate_left
               ·intro w'
                go_simp
                with_reducible rfl
               rotate_left
               ·simp only [Act.put,List.setIfInBounds_toArray,List.set_cons_zero,List.set_cons_succ,i64_w,i32_w,IntKind.wrap_u8]
                rfl
               refine pure_ (i:=16) (N:=some 37) (v:=?_) (a':=?_) #[true,true,true,true,true,true,true,true,true,true,true,true,false,false,true,true,true,false,false,false,false,false,false] rfl rfl (any_of HT_.out (by kernel_rfl)) (fun _ _ _ h => h) (Or.inl ⟨by rfl,?_⟩) ?_ ?_
               rotate_left
               ·intro w'
                go_simp
                with_reducible rfl
               rotate_left
               ·simp only [Act.put,List.setIfInBounds_toArray,List.set_cons_zero,List.set_cons_succ,i64_w,i32_w,IntKind.wrap_u8]
                rfl
               refine pure_ (i:=19) (N:=some 40) (v:=?_) (a':=?_) #[true,true,true,true,true,true,true,true,true,true,true,true,false,false,true,true,true,false,false,true,false,false,false] rfl rfl (any_of HT_.out (by kernel_rfl)) (fun _ _ _ h => h) (Or.inl ⟨by rfl,?_⟩) ?_ ?_
               rotate_left
               ·intro w'
                go_simp
                with_reducible rfl
               rotate_left
               ·simp only [Act.put,List.setIfInBounds_toArray,List.set_cons_zero,List.set_cons_succ,i64_w,i32_w,IntKind.wrap_u8]
                rfl
               refine take_ (i:=12) (N:=some 33) (v:=?_) (a':=?_) #[true,true,true,true,true,true,true,true,true,true,true,true,true,false,true,true,true,false,false,true,false,false,false] rfl rfl (take_ofW HT_.out HW_.out (by kernel_rfl)) (fun _ _ _ h => h) (Or.inl ⟨by rfl,?_⟩) hHeld ?_ ?_
               rotate_left
               ·rintro w' ⟨s0,s1⟩
                go_simp
                with_reducible rfl
               rotate_left
               ·simp only [Act.put,List.setIfInBounds_toArray,List.set_cons_zero,List.set_cons_succ,i64_w,i32_w,IntKind.wrap_u8]
                rfl
               refine pure_ (i:=13) (N:=some 34) (v:=?_) (a':=?_) #[true,true,true,true,true,true,true,true,true,true,true,true,true,true,true,true,true,false,false,true,false,false,false] rfl rfl (any_of HT_.out (by kernel_rfl)) (fun _ _ _ h => h) (Or.inl ⟨by rfl,?_⟩) ?_ ?_
               rotate_left
               ·intro w'
                go_simp
                with_reducible rfl
               rotate_left
               ·simp only [Act.put,List.setIfInBounds_toArray,List.set_cons_zero,List.set_cons_succ,i64_w,i32_w,IntKind.wrap_u8]
                rfl
               refine take_ (i:=17) (N:=some 38) (v:=?_) (a':=?_) #[true,true,true,true,true,true,true,true,true,true,true,true,true,true,true,true,true,true,false,true,false,false,false] rfl rfl (take_ofW HT_.out HW_.out (by kernel_rfl)) (fun _ _ _ h => h) (Or.inl ⟨by rfl,?_⟩) hHeld ?_ ?_
               rotate_left
               ·rintro w' ⟨s0,s1⟩
                go_simp
                with_reducible rfl
               rotate_left
               ·simp only [Act.put,List.setIfInBounds_toArray,List.set_cons_zero,List.set_cons_succ,i64_w,i32_w,IntKind.wrap_u8]
                rfl
               refine pure_ (i:=18) (N:=some 39) (v:=?_) (a':=?_) #[true,true,true,true,true,true,true,true,true,true,true,true,true,true,true,true,true,true,true,true,false,false,false] rfl rfl (any_of HT_.out (by kernel_rfl)) (fun _ _ _ h => h) (Or.inl ⟨by rfl,?_⟩) ?_ ?_
               rotate_left
               ·intro w'
                go_simp
                with_reducible rfl
               rotate_left
               ·simp only [Act.put,List.setIfInBounds_toArray,List.set_cons_zero,List.set_cons_succ,i64_w,i32_w,IntKind.wrap_u8]
                rfl
               refine pure_ (i:=20) (N:=some 41) (v:=?_) (a':=?_) #[true,true,true,true,true,true,true,true,true,true,true,true,true,true,true,true,true,true,true,true,true,false,false] rfl rfl (any_of HT_.out (by kernel_rfl)) (fun _ _ _ h => h) (Or.inl ⟨by rfl,?_⟩) ?_ ?_
               rotate_left
               ·intro w'
                go_simp
                with_reducible rfl
               rotate_left
               ·simp only [Act.put,List.setIfInBounds_toArray,List.set_cons_zero,List.set_cons_succ,i64_w,i32_w,IntKind.wrap_u8]
                rfl
               refine pure_ (i:=21) (N:=some 42) (v:=?_) (a':=?_) #[true,true,true,true,true,true,true,true,true,true,true,true,true,true,true,true,true,true,true,true,true,true,false] rfl rfl (any_of HT_.out (by kernel_rfl)) (fun _ _ _ h => h) (Or.inl ⟨by rfl,?_⟩) ?_ ?_
               rotate_left
               ·intro w'
                go_simp
                with_reducible rfl
               rotate_left
               ·simp only [Act.put,List.setIfInBounds_toArray,List.set_cons_zero,List.set_cons_succ,i64_w,i32_w,IntKind.wrap_u8]
                rfl
               refine pure_ (i:=22) (N:=some 43) (v:=?_) (a':=?_) #[true,true,true,true,true,true,true,true,true,true,true,true,true,true,true,true,true,true,true,true,true,true,true] rfl rfl (any_of HT_.out (by kernel_rfl)) (fun _ _ _ h => h) (Or.inl ⟨by rfl,?_⟩) ?_ ?_
               rotate_left
               ·intro w'
                go_simp
                with_reducible rfl
               rotate_left
               ·simp only [Act.put,List.setIfInBounds_toArray,List.set_cons_zero,List.set_cons_succ,i64_w,i32_w,IntKind.wrap_u8]
                rfl
               refine done_ (done_of HT_.out (by kernel_rfl)) ?_
               obtain ⟨i028,hi028,_,hsz28,_⟩:=info_parts info5
               obtain ⟨A28,hcut28,hA28,hC28⟩:=print_mid_of (P:=Try.prog) (Value.int .u8) 0 29 5 .i64 .i64 Try.underlying29 hi028 hsz28 (some ad168) c0 l0 x6_1 (ji6) (zo_) (by first|omega|exact zo_) (zo_) HC0.out
               have HR178:=zm_ (Kd.C_of_reads (h1:=fun _ => rfl) (hA28 _ (Kd.reads_of_C HR0.out)))
               have HC178:=zm_ hC28
               clear hA28 hC28 hi028 hsz28
               try go_wp2_with (first|((with_reducible refine gate_builtin (b:=.append) (xs:=#[.tmp 62,.tmp 68]) rfl ?_);at_builtin;refine Kd.R_append_rows (Kd.int .u8) (w0:=w) w.heap.size rfl (.tmp 62) (.tmp 68) 29 5 (.int .u8 0) 1 rfl Try.underlying29 info5 rfl (by decide) (by omega) u5 x5_1 ((l0.take ((ji6) : Int).toNat).drop (x6_1 : Int).toNat) _ _ _ (fun _ => True) (fun _ => False) rfl rfl ?aO ?aR (fun _ _ h => h) (fun _ h => h.elim) ?aF ?aB ?aS ?aL ?_;(case aR => first|(rw [← show ((l0.take ((ji6) : Int).toNat).drop (x6_1 : Int).toNat).length = ((ji6).toNat - x6_1.toNat) from (by rw [List.length_drop,List.length_take];have h_ : ((ji6) : Int) ≤ (l0.length : Int):=zo_;omega)];repeat (first|exact (Kd.C_below HR178.out HB.out)|(with_reducible refine Kd.C_alloc ?_ _)|(with_reducible refine Kd.C_drewN ?_ _)|(with_reducible refine Kd.C_drew ?_)))|(repeat (first|exact (Kd.C_below HR178.out HB.out)|(with_reducible refine Kd.C_alloc ?_ _)|(with_reducible refine Kd.C_drewN ?_ _)|(with_reducible refine Kd.C_drew ?_))));(case aB => exact zB_);(case aF => exact (fun _ _ => trivial));(case aO => exact (by (with_reducible repeat (first|apply Kd.R_alloc|apply Kd.R_drewN|apply Kd.R_drew));exact HO_5.out));(case aS => exact (below_size zB_));(case aL => have:=LMc26.out;have hlx_:=(show ((l0.take ((ji6) : Int).toNat).drop (x6_1 : Int).toNat).length = ((ji6).toNat - x6_1.toNat) from (by rw [List.length_drop,List.length_take];have h_ : ((ji6) : Int) ≤ (l0.length : Int):=zo_;omega));omega);intro v180 w29 ho hb hg hat;rw [← Ny179.out] at ho;have n0_:=zm_ (hb);have n1_:=zm_ (ho);clear HB;clear HO_5;have HB:=n0_;have HO181:=n1_;clear n0_ n1_;clear ho hb hg hat))
               go_roundg k2
               case measure => have:=HK1.out;have:=HK2.out;omega
               case rel => exact ⟨(y179),(ji6),(by first|rfl|(exact congrArg Value.bool (isEmpty_ne _))|(exact congrArg Value.bool (isEmpty_ne' _))|(exact congrArg Value.bool (isEmpty_eq _))|(simp;done)|(simp only [← hji6] <;> (first|rfl|simp))|(simp [*];done)),(by first|exact H'|(rw [hji6];exact H')|(simp only [hji6];exact H')),⟨by have:=HK1.out;have:=HK2.out;omega⟩,⟨by (with_reducible repeat (first|apply Kd.R_alloc|apply Kd.R_drewN|apply Kd.R_drew));exact HO181.out⟩,⟨by repeat (first|(with_reducible first|exact HB.out|apply za_|apply zn_|apply zd_)|exact HB.out)⟩⟩
              ·rw [if_neg c26] at H
               exact absurd H (by simp)
             ·rw [if_neg c25] at H
              exact absurd H (by simp)
            ·rw [if_neg c24] at H
             exact absurd H (by simp)
         ·rw [if_neg c9] at H
          exact absurd H (by simp)
        ·rw [if_neg c8] at H
         exact absurd H (by simp)
       ·rw [if_neg c7] at H
        exact absurd H (by simp)
      ·rw [if_neg c5] at H
       have c5b0 : decide ((wrap64 (x6_1 + x7_2)) < (l0.length : Int)) = false:=decide_eq_false c5
       clear c5
       by_cases c30 : x7_2 ≥ 3
       ·rw [if_pos c30] at H
        have c30b0 : decide (3 ≤ x7_2) = true:=decide_eq_true c30
        clear c30
        by_cases c31 : 0 ≤ x6_1
        ·rw [if_pos c31] at H
         have c31b0 : decide (0 ≤ x6_1) = true:=decide_eq_true c31
         clear c31
         by_cases c32 : x6_1 < (l0.length : Int)
         ·rw [if_pos c32] at H
          have c32b0 : decide (x6_1 < (l0.length : Int)) = true:=decide_eq_true c32
          clear c32
          obtain ⟨ji33,hji33⟩ : ∃ j_ : Int,(wrap64 ((wrap64 (x6_1 + x7_2)) - 1)) = j_:=⟨_,rfl⟩
          replace H : (if 0 ≤ (ji33) then (if (ji33) < (l0.length : Int) then ((some (([rd l0 x6_1,45,rd l0 (ji33)] : List Int) : List Int)).bind fun y184 => (if x5_1.length + y184.length < 140737488355328 then (impl_SetOf.l0 k2 l0 (x5_1 ++ y184) (wrap64 (x6_1 + x7_2))) else (none))) else (none)) else (none)) = some (r1,r2):=by first|(rw [hji33] at H;exact H)|(simp only [hji33] at H ⊢;exact H)
          have hji33w : (IntKind.i64.wrap ((wrap64 (x6_1 + x7_2)) - 1)) = ji33:=(i64_w _).trans hji33
          by_cases c34 : 0 ≤ (ji33)
          ·rw [if_pos c34] at H
           have c34b0 : decide (0 ≤ (ji33)) = true:=decide_eq_true c34
           clear c34
           by_cases c35 : (ji33) < (l0.length : Int)
           ·rw [if_pos c35] at H
            have c35b0 : decide ((ji33) < (l0.length : Int)) = true:=decide_eq_true c35
            clear c35
            obtain ⟨y184,hy184⟩ : ∃ y_ : List Int,y_ = (([rd l0 x6_1,45,rd l0 (ji33)] : List Int)):=⟨_,rfl⟩
            replace H : (if x5_1.length + y184.length < 140737488355328 then (impl_SetOf.l0 k2 l0 (x5_1 ++ y184) (wrap64 (x6_1 + x7_2))) else (none)) = some (r1,r2):=by first|(rw [hy184];with_reducible exact H)|(have H2_:=(Option.bind_some _ _).symm.trans H;rw [hy184];with_reducible exact H2_)|(have H2_:=(Option.bind_some _ _).symm.trans H;with_reducible exact H2_)|with_reducible exact H|(rw [hy184];exact H)|exact H
            have Ny184:=zm_ hy184
            clear hy184
            by_cases c36 : x5_1.length + y184.length < 140737488355328
            ·rw [if_pos c36] at H
             have LMc36:=zm_ c36
             clear c36
             obtain ⟨y187,hy187⟩ : ∃ y_ : List Int,y_ = (x5_1 ++ y184):=⟨_,rfl⟩
             replace H : (impl_SetOf.l0 k2 l0 y187 (wrap64 (x6_1 + x7_2))) = some (r1,r2):=by first|(rw [hy187];with_reducible exact H)|(have H2_:=(Option.bind_some _ _).symm.trans H;rw [hy187];with_reducible exact H2_)|(have H2_:=(Option.bind_some _ _).symm.trans H;with_reducible exact H2_)|with_reducible exact H|(rw [hy187];exact H)|exact H
             have Ny187:=zm_ hy187
             clear hy187
             have H':=zm_ H
             clear H
             try go_wp2
             have n0_:=zm_ (Kd.R_drew HO_5.out)
             have n1_:=zm_ (zd_ HB.out)
             clear HO_5
             clear HB
             have HO_5:=n0_
             have HB:=n1_
             clear n0_ n1_
             refine start_ (n:=23) (S:=fun w' => True) (ds:=[]) #[false,false,false,false,false,false,false,false,false,false,false,false,false,false,false,false,false,false,false,false,false,false,false] (by kernel_rfl) rfl rfl trivial (fun hHeld => ?_);refine with_tabW impl_SetOf.tab8 impl_SetOf.bits8 (fun HT_ HW_ => ?_)
             generalize wr.drew = w37 at HO_5 HB hHeld ⊢
             refine pure_ (i:=0) (N:=some 21) (v:=?_) (a':=?_) #[true,false,false,false,false,false,false,false,false,false,false,false,false,false,false,false,false,false,false,false,false,false,false] rfl rfl (any_of HT_.out (by kernel_rfl)) (fun _ _ _ h => h) (Or.inl ⟨by rfl,?_⟩) ?_ ?_
             rotate_left
             ·intro w'
              go_simp
              with_reducible rfl
             rotate_left
             ·simp only [Act.put,List.setIfInBounds_toArray,List.set_cons_zero,List.set_cons_succ,i64_w,i32_w,IntKind.wrap_u8]
              rfl
             refine pure_ (i:=1) (N:=some 22) (v:=?_) (a':=?_) #[true,true,false,false,false,false,false,false,false,false,false,false,false,false,false,false,false,false,false,false,false,false,false] rfl rfl (any_of HT_.out (by kernel_rfl)) (fun _ _ _ h => h) (Or.inl ⟨by rfl,?_⟩) ?_ ?_
             rotate_left
             ·intro w'
              go_simp
              with_reducible rfl
             rotate_left
             ·simp only [Act.put,List.setIfInBounds_toArray,List.set_cons_zero,List.set_cons_succ,i64_w,i32_w,IntKind.wrap_u8]
              rfl
             refine pure_ (i:=2) (N:=some 23) (v:=?_) (a':=?_) #[true,true,true,false,false,false,false,false,false,false,false,false,false,false,false,false,false,false,false,false,false,false,false] rfl rfl (any_of HT_.out (by kernel_rfl)) (fun _ _ _ h => h) (Or.inl ⟨by rfl,?_⟩) ?_ ?_
             rotate_left
             ·intro w'
              go_simp
              with_reducible rfl
             rotate_left
             ·simp only [Act.put,List.setIfInBounds_toArray,List.set_cons_zero,List.set_cons_succ,i64_w,i32_w,IntKind.wrap_u8]
              rfl
             refine pure_ (i:=3) (N:=some 24) (v:=?_) (a':=?_) #[true,true,true,true,false,false,false,false,false,false,false,false,false,false,false,false,false,false,false,false,false,false,false] rfl rfl (any_of HT_.out (by kernel_rfl)) (fun _ _ _ h => h) (Or.inl ⟨by rfl,?_⟩) ?_ ?_
             rotate_left
             ·intro w'
              go_simp
              with_reducible rfl
             rotate_left
             ·simp only [Act.put,List.setIfInBounds_toArray,List.set_cons_zero,List.set_cons_succ,i64_w,i32_w,IntKind.wrap_u8]
              rfl
             refine pure_ (i:=4) (N:=some 25) (v:=?_) (a':=?_) #[true,true,true,true,true,false,false,false,false,false,false,false,false,false,false,false,false,false,false,false,false,false,false] rfl rfl (any_of HT_.out (by kernel_rfl)) (fun _ _ _ h => h) (Or.inl ⟨by rfl,?_⟩) ?_ ?_
             rotate_left
             ·intro w'
              go_simp
              with_reducible rfl
             rotate_left
             ·simp only [Act.put,List.setIfInBounds_toArray,List.set_cons_zero,List.set_cons_succ,i64_w,i32_w,IntKind.wrap_u8]
              rfl
             refine pure_ (i:=5) (N:=some 26) (v:=?_) (a':=?_) #[true,true,true,true,true,true,false,false,false,false,false,false,false,false,false,false,false,false,false,false,false,false,false] rfl rfl (any_of HT_.out (by kernel_rfl)) (fun _ _ _ h => h) (Or.inl ⟨by rfl,?_⟩) ?_ ?_
             rotate_left
             ·intro w'
              go_simp
              with_reducible rfl
             rotate_left
             ·simp only [Act.put,List.setIfInBounds_toArray,List.set_cons_zero,List.set_cons_succ,i64_w,i32_w,IntKind.wrap_u8]
              rfl
             refine pure_ (i:=6) (N:=some 27) (v:=?_) (a':=?_) #[true,true,true,true,true,true,true,false,false,false,false,false,false,false,false,false,false,false,false,false,false,false,false] rfl rfl (any_of HT_.out (by kernel_rfl)) (fun _ _ _ h => h) (Or.inl ⟨by rfl,?_⟩) ?_ ?_
             rotate_left
             ·intro w'
              go_simp
              with_reducible rfl
             rotate_left
             ·simp only [Act.put,List.setIfInBounds_toArray,List.set_cons_zero,List.set_cons_succ,i64_w,i32_w,IntKind.wrap_u8]
              rfl
             refine pure_ (i:=7) (N:=some 28) (v:=undef) (a':=?_) #[true,true,true,true,true,true,true,true,false,false,false,false,false,false,false,false,false,false,false,false,false,false,false] rfl rfl (any_of HT_.out (by kernel_rfl)) (fun _ _ _ h => h) (Or.inr ⟨by rfl,rfl⟩) ?_ ?_
             rotate_left
             ·simp only [Act.put,List.setIfInBounds_toArray,List.set_cons_zero,List.set_cons_succ,i64_w,i32_w,IntKind.wrap_u8]
              rfl
             refine pure_ (i:=8) (N:=some 29) (v:=undef) (a':=?_) #[true,true,true,true,true,true,true,true,true,false,false,false,false,false,false,false,false,false,false,false,false,false,false] rfl rfl (any_of HT_.out (by kernel_rfl)) (fun _ _ _ h => h) (Or.inr ⟨by rfl,rfl⟩) ?_ ?_
             rotate_left
             ·simp only [Act.put,List.setIfInBounds_toArray,List.set_cons_zero,List.set_cons_succ,i64_w,i32_w,IntKind.wrap_u8]
              rfl
             refine pure_ (i:=9) (N:=some 30) (v:=undef) (a':=?_) #[true,true,true,true,true,true,true,true,true,true,false,false,false,false,false,false,false,false,false,false,false,false,false] rfl rfl (any_of HT_.out (by kernel_rfl)) (fun _ _ _ h => h) (Or.inr ⟨by rfl,rfl⟩) ?_ ?_
             rotate_left
             ·simp only [Act.put,List.setIfInBounds_toArray,List.set_cons_zero,List.set_cons_succ,i64_w,i32_w,IntKind.wrap_u8]
              rfl
             refine pure_ (i:=10) (N:=some 31) (v:=undef) (a':=?_) #[true,true,true,true,true,true,true,true,true,true,true,false,false,false,false,false,false,false,false,false,false,false,false] rfl rfl (any_of HT_.out (by kernel_rfl)) (fun _ _ _ h => h) (Or.inr ⟨by rfl,rfl⟩) ?_ ?_
             rotate_left
             ·simp only [Act.put,List.setIfInBounds_toArray,List.set_cons_zero,List.set_cons_succ,i64_w,i32_w,IntKind.wrap_u8]
              rfl
             refine pure_ (i:=11) (N:=some 32) (v:=undef) (a':=?_) #[true,true,true,true,true,true,true,true,true,true,true,true,false,false,false,false,false,false,false,false,false,false,false] rfl rfl (any_of HT_.out (by kernel_rfl)) (fun _ _ _ h => h) (Or.inr ⟨by rfl,rfl⟩) ?_ ?_
             rotate_left
             ·simp only [Act.put,List.setIfInBounds_toArray,List.set_cons_zero,List.set_cons_succ,i64_w,i32_w,IntKind.wrap_u8]
              rfl
             refine pure_ (i:=12) (N:=some 33) (v:=undef) (a':=?_) #[true,true,true,true,true,true,true,true,true,true,true,true,true,false,false,false,false,false,false,false,false,false,false] rfl rfl (any_of HT_.out (by kernel_rfl)) (fun _ _ _ h => h) (Or.inr ⟨by rfl,rfl⟩) ?_ ?_
             rotate_left
             ·simp only [Act.put,List.setIfInBounds_toArray,List.set_cons_zero,List.set_cons_succ,i64_w,i32_w,IntKind.wrap_u8]
              rfl
             refine pure_ (i:=13) (N:=some 34) (v:=undef) (a':=?_) #[true,true,true,true,true,true,true,true,true,true,true,true,true,true,false,false,false,false,false,false,false,false,false] rfl rfl (any_of HT_.out (by kernel_rfl)) (fun _ _ _ h => h) (Or.inr ⟨by rfl,rfl⟩) ?_ ?_
             rotate_left
             ·simp only [Act.put,List.setIfInBounds_toArray,List.set_cons_zero,List.set_cons_succ,i64_w,i32_w,IntKind.wrap_u8]
              rfl
             refine pure_ (i:=14) (N:=some 35) (v:=undef) (a':=?_) #[true,true,true,true,true,true,true,true,true,true,true,true,true,true,true,false,false,false,false,false,false,false,false] rfl rfl (any_of HT_.out (by kernel_rfl)) (fun _ _ _ h => h) (Or.inr ⟨by rfl,rfl⟩) ?_ ?_
             rotate_left
             ·simp only [Act.put,List.setIfInBounds_toArray,List.set_cons_zero,List.set_cons_succ,i64_w,i32_w,IntKind.wrap_u8]
              rfl
             refine pure_ (i:=15) (N:=some 36) (v:=undef) (a':=?_) #[true,true,true,true,true,true,true,true,true,true,true,true,true,true,true,true,false,false,false,false,false,false,false] rfl rfl (any_of HT_.out (by kernel_rfl)) (fun _ _ _ h => h) (Or.inr ⟨by rfl,rfl⟩) ?_ ?_
             rotate_left
             ·simp only [Act.put,List.setIfInBounds_toArray,List.set_cons_zero,List.set_cons_succ,i64_w,i32_w,IntKind.wrap_u8]
              rfl
             refine pure_ (i:=16) (N:=some 37) (v:=undef) (a':=?_) #[true,true,true,true,true,true,true,true,true,true,true,true,true,true,true,true,true,false,false,false,false,false,false] rfl rfl (any_of HT_.out (by kernel_rfl)) (fun _ _ _ h => h) (Or.inr ⟨by rfl,rfl⟩) ?_ ?_
             rotate_left
             ·simp only [Act.put,List.setIfInBounds_toArray,List.set_cons_zero,List.set_cons_succ,i64_w,i32_w,IntKind.wrap_u8]
              rfl
             refine pure_ (i:=17) (N:=some 38) (v:=undef) (a':=?_) #[true,true,true,true,true,true,true,true,true,true,true,true,true,true,true,true,true,true,false,false,false,false,false] rfl rfl (any_of HT_.out (by kernel_rfl)) (fun _ _ _ h => h) (Or.inr ⟨by rfl,rfl⟩) ?_ ?_
             rotate_left
             ·simp only [Act.put,List.setIfInBounds_toArray,List.set_cons_zero,List.set_cons_succ,i64_w,i32_w,IntKind.wrap_u8]
              rfl
             refine pure_ (i:=18) (N:=some 39) (v:=undef) (a':=?_) #[true,true,true,true,true,true,true,true,true,true,true,true,true,true,true,true,true,true,true,false,false,false,false] rfl rfl (any_of HT_.out (by kernel_rfl)) (fun _ _ _ h => h) (Or.inr ⟨by rfl,rfl⟩) ?_ ?_
             rotate_left
             ·simp only [Act.put,List.setIfInBounds_toArray,List.set_cons_zero,List.set_cons_succ,i64_w,i32_w,IntKind.wrap_u8]
              rfl
             refine pure_ (i:=19) (N:=some 40) (v:=undef) (a':=?_) #[true,true,true,true,true,true,true,true,true,true,true,true,true,true,true,true,true,true,true,true,false,false,false] rfl rfl (any_of HT_.out (by kernel_rfl)) (fun _ _ _ h => h) (Or.inr ⟨by rfl,rfl⟩) ?_ ?_
             rotate_left
             ·simp only [Act.put,List.setIfInBounds_toArray,List.set_cons_zero,List.set_cons_succ,i64_w,i32_w,IntKind.wrap_u8]
              rfl
             refine pure_ (i:=20) (N:=some 41) (v:=undef) (a':=?_) #[true,true,true,true,true,true,true,true,true,true,true,true,true,true,true,true,true,true,true,true,true,false,false] rfl rfl (any_of HT_.out (by kernel_rfl)) (fun _ _ _ h => h) (Or.inr ⟨by rfl,rfl⟩) ?_ ?_
             rotate_left
             ·simp only [Act.put,List.setIfInBounds_toArray,List.set_cons_zero,List.set_cons_succ,i64_w,i32_w,IntKind.wrap_u8]
              rfl
             refine pure_ (i:=21) (N:=some 42) (v:=undef) (a':=?_) #[true,true,true,true,true,true,true,true,true,true,true,true,true,true,true,true,true,true,true,true,true,true,false] rfl rfl (any_of HT_.out (by kernel_rfl)) (fun _ _ _ h => h) (Or.inr ⟨by rfl,rfl⟩) ?_ ?_
             rotate_left
             ·simp only [Act.put,List.setIfInBounds_toArray,List.set_cons_zero,List.set_cons_succ,i64_w,i32_w,IntKind.wrap_u8]
              rfl
             refine pure_ (i:=22) (N:=some 43) (v:=?_) (a':=?_) #[true,true,true,true,true,true,true,true,true,true,true,true,true,true,true,true,true,true,true,true,true,true,true] rfl rfl (any_of HT_.out (by kernel_rfl)) (fun _ _ _ h => h) (Or.inl ⟨by rfl,?_⟩) ?_ ?_
             rotate_left
             ·intro w'
              go_simp
              with_reducible rfl
             rotate_left
             ·simp only [Act.put,List.setIfInBounds_toArray,List.set_cons_zero,List.set_cons_succ,i64_w,i32_w,IntKind.wrap_u8]
              rfl
             refine done_ (done_of HT_.out (by kernel_rfl)) ?_
             try go_wp2
             have n0_:=zm_ (Kd.R_drew HO_5.out)
             have n1_:=zm_ (zd_ HB.out)
             clear HO_5
             clear HB
             have HO_5:=n0_
             have HB:=n1_
             clear n0_ n1_
             have p182 : 0 ≤ (x6_1 : Int):=zo_
             have q182 : x6_1 < (l0.length : Int):=zo_
             obtain ⟨ad182,e182,hx182_0⟩:=Kd.at_int HR0.out x6_1 p182 q182
             have hw182_0:=hx182_0
             cases e182
             replace hx182_0:=(HB.out.cell (zb_ w _ hx182_0)).trans hx182_0
             replace p182:=eq_true p182
             replace q182:=eq_true q182
             have p183 : 0 ≤ ((ji33) : Int):=zo_
             have q183 : (ji33) < (l0.length : Int):=zo_
             obtain ⟨ad183,e183,hx183_0⟩:=Kd.at_int HR0.out (ji33) p183 q183
             have hw183_0:=hx183_0
             obtain rfl : ad182 = ad183:=(by injection e183)
             replace hx183_0:=(HB.out.cell (zb_ w _ hx183_0)).trans hx183_0
             replace p183:=eq_true p183
             replace q183:=eq_true q183
             refine start_ (n:=15) (S:=fun w' => w'.cell? (ad182.add (x6_1).toNat) = some (.int .u8 (rd l0 x6_1)) ∧ w'.cell? (ad182.add ((ji33)).toNat) = some (.int .u8 (rd l0 (ji33)))) (ds:=[]) #[false,false,false,false,false,false,false,false,false,false,false,false,false,false,false] (by kernel_rfl) rfl rfl ⟨((HB.out.cell (zb_ w _ hw182_0)).trans hw182_0),((HB.out.cell (zb_ w _ hw183_0)).trans hw183_0)⟩ (fun hHeld => ?_);refine with_tabW impl_SetOf.tab11 impl_SetOf.bits11 (fun HT_ HW_ => ?_)
             generalize w37.drew = w38 at HO_5 HB hx182_0 hx183_0 hHeld ⊢
             refine pure_ (i:=0) (N:=some 48) (v:=?_) (a':=?_) #[true,false,false,false,false,false,false,false,false,false,false,false,false,false,false] rfl rfl (any_of HT_.out (by kernel_rfl)) (fun _ _ _ h => h) (Or.inl ⟨by rfl,?_⟩) ?_ ?_
             rotate_left
             ·intro w'
              go_simp
              with_reducible rfl
             rotate_left
             ·simp only [Act.put,List.setIfInBounds_toArray,List.set_cons_zero,List.set_cons_succ,i64_w,i32_w,IntKind.wrap_u8]
              rfl
             refine pure_ (i:=1) (N:=some 49) (v:=?_) (a':=?_) #[true,true,false,false,false,false,false,false,false,false,false,false,false,false,false] rfl rfl (any_of HT_.out (by kernel_rfl)) (fun _ _ _ h => h) (Or.inl ⟨by rfl,?_⟩) ?_ ?_
             rotate_left
             ·intro w'
              go_simp
              with_reducible rfl
             rotate_left
             ·simp only [Act.put,List.setIfInBounds_toArray,List.set_cons_zero,List.set_cons_succ,i64_w,i32_w,IntKind.wrap_u8]
              rfl
             refine pure_ (i:=2) (N:=some 50) (v:=?_) (a':=?_) #[true,true,true,false,false,false,false,false,false,false,false,false,false,false,false] rfl rfl (any_of HT_.out (by kernel_rfl)) (fun _ _ _ h => h) (Or.inl ⟨by rfl,?_⟩) ?_ ?_
             rotate_left
             ·intro w'
              go_simp
              with_reducible rfl
             rotate_left
             ·simp only [Act.put,List.setIfInBounds_toArray,List.set_cons_zero,List.set_cons_succ,i64_w,i32_w,IntKind.wrap_u8]
              rfl
             refine pure_ (i:=3) (N:=some 51) (v:=?_) (a':=?_) #[true,true,true,true,false,false,false,false,false,false,false,false,false,false,false] rfl rfl (any_of HT_.out (by kernel_rfl)) (fun _ _ _ h => h) (Or.inl ⟨by rfl,?_⟩) ?_ ?_
             rotate_left
             ·intro w'
              go_simp
              with_reducible rfl
             rotate_left
             ·simp only [Act.put,List.setIfInBounds_toArray,List.set_cons_zero,List.set_cons_succ,i64_w,i32_w,IntKind.wrap_u8]
              rfl
             refine pure_ (i:=5) (N:=some 53) (v:=?_) (a':=?_) #[true,true,true,true,false,true,false,false,false,false,false,false,false,false,false] rfl rfl (any_of HT_.out (by kernel_rfl)) (fun _ _ _ h => h) (Or.inl ⟨by rfl,?_⟩) ?_ ?_
             rotate_left
             ·intro w'
              go_simp
              with_reducible rfl
             rotate_left
             ·simp only [Act.put,List.setIfInBounds_toArray,List.set_cons_zero,List.set_cons_succ,i64_w,i32_w,IntKind.wrap_u8]
              rfl
             refine pure_ (i:=6) (N:=some 54) (v:=?_) (a':=?_) #[true,true,true,true,false,true,true,false,false,false,false,false,false,false,false] rfl rfl (any_of HT_.out (by kernel_rfl)) (fun _ _ _ h => h) (Or.inl ⟨by rfl,?_⟩) ?_ ?_
             rotate_left
             ·intro w'
              go_simp
              with_reducible rfl
             rotate_left
             ·simp only [Act.put,List.setIfInBounds_toArray,List.set_cons_zero,List.set_cons_succ,i64_w,i32_w,IntKind.wrap_u8]
              rfl
             refine pure_ (i:=7) (N:=some 55) (v:=?_) (a':=?_) #[true,true,true,true,false,true,true,true,false,false,false,false,false,false,false] rfl rfl (any_of HT_.out (by kernel_rfl)) (fun _ _ _ h => h) (Or.inl ⟨by rfl,?_⟩) ?_ ?_
             rotate_left
             ·intro w'
              go_simp
              with_reducible rfl
             rotate_left
             ·simp only [Act.put,List.setIfInBounds_toArray,List.set_cons_zero,List.set_cons_succ,i64_w,i32_w,IntKind.wrap_u8]
              rfl
             refine pure_ (i:=8) (N:=some 56) (v:=?_) (a':=?_) #[true,true,true,true,false,true,true,true,true,false,false,false,false,false,false] rfl rfl (any_of HT_.out (by kernel_rfl)) (fun _ _ _ h => h) (Or.inl ⟨by rfl,?_⟩) ?_ ?_
             rotate_left
             ·intro w'
              go_simp
              with_reducible rfl
             rotate_left
             ·simp only [Act.put,List.setIfInBounds_toArray,List.set_cons_zero,List.set_cons_succ,i64_w,i32_w,IntKind.wrap_u8]
              rfl
             refine pure_ (i:=9) (N:=some 57) (v:=?_) (a':=?_) #[true,true,true,true,false,true,true,true,true,true,false,false,false,false,false] rfl rfl (any_of HT_.out (by kernel_rfl)) (fun _ _ _ h => h) (Or.inl ⟨by rfl,?_⟩) ?_ ?_
             rotate_left
             ·intro w'
              go_simp
              with_reducible rfl
             rotate_left
             ·simp only [Act.put,List.setIfInBounds_toArray,List.set_cons_zero,List.set_cons_succ,i64_w,i32_w,IntKind.wrap_u8]
              rfl
             refine pure_ (i:=10) (N:=some 58) (v:=?_) (a':=?_) #[true,true,true,true,false,true,true,true,true,true,true,false,false,false,false] rfl rfl (any_of HT_.out (by kernel_rfl)) (fun _ _ _ h => h) (Or.inl ⟨by rfl,?_⟩) ?_ ?_
             rotate_left
             ·intro w'
              go_simp
              with_reducible rfl
             rotate_left
             ·simp only [Act.put,List.setIfInBounds_toArray,List.set_cons_zero,List.set_cons_succ,i64_w,i32_w,IntKind.wrap_u8]
              rfl
             refine take_ (i:=4) (N:=some 52) (v:=?_) (a':=?_) #[true,true,true,true,true,true,true,true,true,true,true,false,false,false,false] rfl rfl (take_ofW HT_.out HW_.out (by kernel_rfl)) (fun _ _ _ h => h) (Or.inl ⟨by rfl,?_⟩) hHeld ?_ ?_
             rotate_left
             ·rintro w' ⟨s0,s1⟩
              go_simp
              with_reducible rfl
             rotate_left
             ·simp only [Act.put,List.setIfInBounds_toArray,List.set_cons_zero,List.set_cons_succ,i64_w,i32_w,IntKind.wrap_u8]
              rfl
             refine take_ (i:=11) (N:=some 59) (v:=?_) (a':=?_) #[true,true,true,true,true,true,true,true,true,true,true,true,false,false,false] rfl rfl (take_ofW HT_.out HW_.out (by kernel_rfl)) (fun _ _ _ h => h) (Or.inl ⟨by rfl,?_⟩) hHeld ?_ ?_
             rotate_left
             ·rintro w' ⟨s0,s1⟩
              go_simp
              with_reducible rfl
             rotate_left
             ·simp only [Act.put,List.setIfInBounds_toArray,List.set_cons_zero,List.set_cons_succ,i64_w,i32_w,IntKind.wrap_u8]
              rfl
             refine one_ (i:=12) (N:=some 60) #[true,true,true,true,true,true,true,true,true,true,true,true,true,false,false] rfl rfl (one_of HT_.out (by kernel_rfl)) (by decide) (fun K hK => ?_)
             refine Kd.R_lit_step (Kd.int .u8) _ 5 ?hg (N:=60) ?hd (xs:=([rd l0 x6_1,45,rd l0 (ji33)] : List Int)) (inner:=[.int .u8 (rd l0 x6_1),.int .u8 45,.int .u8 (rd l0 (ji33))]) (ok:=fun _ => True) (okp:=fun _ => True) ?hr ?hp (fun _ hk => hk) trivial (Below.refl _ _) (Nat.le_refl _) (by simp) ?_;(case hd => rfl);(case hg => rfl);(case hr => first|(go_simp;done)|(go_simp;rfl));(case hp => exact (Reps.one (show Kd.M (Kd.int .u8) _ _ _ (rd l0 x6_1) [.int .u8 (rd l0 x6_1)] from rfl) (Reps.one (show Kd.M (Kd.int .u8) _ _ _ 45 [.int .u8 45] from rfl) (Reps.one (show Kd.M (Kd.int .u8) _ _ _ (rd l0 (ji33)) [.int .u8 (rd l0 (ji33))] from rfl) (Reps.none _ _)))))
             intro v185 w39 ho40 hb hg_ hnew_
             clear hg_ hnew_
             (first|rw [← Ny184.out] at ho40|(simp only [Int.reduceToNat] at ho40;rw [← Ny184.out] at ho40))
             have n0_:=zm_ (Kd.R_elder' (by (with_reducible repeat (first|apply Kd.R_alloc|apply Kd.R_drewN|apply Kd.R_drew));exact HO_5.out) (Kd.R_base ho40) hb)
             have n1_:=zm_ (Kd.R_lower (Kd.R_new' ho40 (Kd.R_lt (by (with_reducible repeat (first|apply Kd.R_alloc|apply Kd.R_drewN|apply Kd.R_drew));exact HO_5.out))) (below_size zB_))
             have n2_:=zm_ (below_step zB_ hb)
             clear HO_5
             clear HB
             have HO_5:=n0_
             have HO186:=n1_
             have HB:=n2_
             clear n0_ n1_ n2_
             clear hb ho40
             obtain ⟨Ao42,co42,eo42⟩:=Kd.R_slice HO186.out
             (first|subst eo42|(injection eo42 with f1_ f2_ f3_;have f4_:=f1_.symm;have f5_:=f3_.symm;clear f1_ f2_ f3_;subst f4_;subst f5_))
             refine hK.out _ _ ⟨((HB.out.cell (zb_ w _ hw182_0)).trans hw182_0),((HB.out.cell (zb_ w _ hw183_0)).trans hw183_0)⟩ (fun hHeld => ?_)
             clear hK K
             refine norm_ (a':=?_) ?_ ?_
             rotate_left
             ·show Act.put _ (some 60) _ = _
              simp only [Act.put,List.setIfInBounds_toArray,List.set_cons_zero,List.set_cons_succ,i64_w,i32_w,IntKind.wrap_u8]
              rfl
             refine one_ (i:=13) (N:=some 61) #[true,true,true,true,true,true,true,true,true,true,true,true,true,true,false] rfl rfl (one_of HT_.out (by kernel_rfl)) (by decide) (fun K hK => ?_)
             refine Kd.R_append_rows_step (Kd.int .u8) (w0:=w) w.heap.size (by rfl) (.tmp 48) (.tmp 60) 29 5 (.int .u8 0) 1 rfl Try.underlying29 info5 rfl (by decide) (by omega) u5 x5_1 y184 _ _ _ (fun k_ => some k_ ≠ (.slice Ao42 y184.length co42 : Value).ownBlock) (fun _ => False) rfl rfl ?aO ?aR (fun _ _ h => h) (fun _ h => h.elim) ?aF ?aB ?aS ?aL ?_
             (case aR => repeat (first|exact (Kd.R_reads' HO186.out).2.2|(with_reducible refine Kd.C_alloc ?_ _)|(with_reducible refine Kd.C_drewN ?_ _)|(with_reducible refine Kd.C_drew ?_)))
             (case aB => exact zB_)
             (case aF => exact (fun k_ hk => Kd.fresh' (Kd.R_lt (by (with_reducible repeat (first|apply Kd.R_alloc|apply Kd.R_drewN|apply Kd.R_drew));exact HO186.out)) k_ hk))
             (case aO => exact (by (with_reducible repeat (first|apply Kd.R_alloc|apply Kd.R_drewN|apply Kd.R_drew));exact Kd.R_mono HO_5.out (fun _ hk => hk.2)))
             (case aS => exact (below_size zB_))
             (case aL => have:=LMc36.out;omega)
             intro v188 w41 ho hb hg hat
             rw [← Ny187.out] at ho
             have n0_:=zm_ (Kd.R_after (ok:=(fun _ => True)) (by (with_reducible repeat (first|apply Kd.R_alloc|apply Kd.R_drewN|apply Kd.R_drew));exact HO186.out) hg hat)
             have n1_:=zm_ (hb)
             have n2_:=zm_ (ho)
             clear HO186
             clear HB
             clear HO_5
             have HO186:=n0_
             have HB:=n1_
             have HO189:=n2_
             clear n0_ n1_ n2_
             clear ho hb hg hat
             refine hK.out _ _ ⟨((HB.out.cell (zb_ w _ hw182_0)).trans hw182_0),((HB.out.cell (zb_ w _ hw183_0)).trans hw183_0)⟩ (fun hHeld => ?_)
             clear hK K
             refine norm_ (a':=?_) ?_ ?_
             rotate_left
             ·show Act.put _ (some 61) _ = _
              simp only [Act.put,List.setIfInBounds_toArray,List.set_cons_zero,List.set_cons_succ,i64_w,i32_w,IntKind.wrap_u8]
              rfl
             refine pure_ (i:=14) (N:=some 5) (v:=?_) (a':=?_) #[true,true,true,true,true,true,true,true,true,true,true,true,true,true,true] rfl rfl (any_of HT_.out (by kernel_rfl)) (fun _ _ _ h => h) (Or.inl ⟨by rfl,?_⟩) ?_ ?_
             rotate_left
             ·intro w'
              go_simp
              with_reducible rfl
             rotate_left
             ·simp only [Act.put,List.setIfInBounds_toArray,List.set_cons_zero,List.set_cons_succ,i64_w,i32_w,IntKind.wrap_u8]
              rfl
             refine done_ (done_of HT_.out (by kernel_rfl)) ?_
             try go_wp2
             go_roundg k2
             case measure => have:=HK1.out;have:=HK2.out;omega
             case rel => exact ⟨(y187),(wrap64 (x6_1 + x7_2)),zV_,H',⟨by have:=HK1.out;have:=HK2.out;omega⟩,⟨by (with_reducible repeat (first|apply Kd.R_alloc|apply Kd.R_drewN|apply Kd.R_drew));exact Kd.R_mono HO189.out (fun _ hk => trivial)⟩,⟨by repeat (first|(with_reducible first|exact HB.out|apply za_|apply zn_|apply zd_)|exact HB.out)⟩⟩
            ·rw [if_neg c36] at H
             exact absurd H (by simp)
           ·rw [if_neg c35] at H
            exact absurd H (by simp)
          ·rw [if_neg c34] at H
           exact absurd H (by simp)
         ·rw [if_neg c32] at H
          exact absurd H (by simp)
        ·rw [if_neg c31] at H
         exact absurd H (by simp)
       ·rw [if_neg c30] at H
        have c30b0 : decide (3 ≤ x7_2) = false:=decide_eq_false c30
        clear c30
        by_cases c43 : 0 ≤ x6_1
        ·rw [if_pos c43] at H
         have c43b0:=eq_true c43
         have c43b1 : decide (0 ≤ x6_1) = true:=decide_eq_true c43
         clear c43
         by_cases c44 : x6_1 ≤ (wrap64 (x6_1 + x7_2))
         ·rw [if_pos c44] at H
          have c44b0:=eq_true c44
          have c44b1 : decide (x6_1 ≤ (wrap64 (x6_1 + x7_2))) = true:=decide_eq_true c44
          by_cases c45 : (wrap64 (x6_1 + x7_2)) ≤ (l0.length : Int)
          ·rw [if_pos c45] at H
           have c45b0:=eq_true c45
           have c45b1 : decide ((wrap64 (x6_1 + x7_2)) ≤ (l0.length : Int)) = true:=decide_eq_true c45
           by_cases c46 : x5_1.length + ((l0.take ((wrap64 (x6_1 + x7_2)) : Int).toNat).drop (x6_1 : Int).toNat).length < 140737488355328
           ·rw [if_pos c46] at H
            have LMc46:=zm_ c46
            clear c46
            obtain ⟨y191,hy191⟩ : ∃ y_ : List Int,y_ = (x5_1 ++ ((l0.take ((wrap64 (x6_1 + x7_2)) : Int).toNat).drop (x6_1 : Int).toNat)):=⟨_,rfl⟩
            replace H : (impl_SetOf.l0 k2 l0 y191 (wrap64 (x6_1 + x7_2))) = some (r1,r2):=by first|(rw [hy191];with_reducible exact H)|(have H2_:=(Option.bind_some _ _).symm.trans H;rw [hy191];with_reducible exact H2_)|(have H2_:=(Option.bind_some _ _).symm.trans H;with_reducible exact H2_)|with_reducible exact H|(rw [hy191];exact H)|exact H
            have Ny191:=zm_ hy191
            clear hy191
            have H':=zm_ H
            clear H
            try go_wp2
            have n0_:=zm_ (Kd.R_drew HO_5.out)
            have n1_:=zm_ (zd_ HB.out)
            clear HO_5
            clear HB
            have HO_5:=n0_
            have HB:=n1_
            clear n0_ n1_
            refine start_ (n:=23) (S:=fun w' => True) (ds:=[]) #[false,false,false,false,false,false,false,false,false,false,false,false,false,false,false,false,false,false,false,false,false,false,false] (by kernel_rfl) rfl rfl trivial (fun hHeld => ?_);refine with_tabW impl_SetOf.tab8 impl_SetOf.bits8 (fun HT_ HW_ => ?_)
            generalize wr.drew = w47 at HO_5 HB hHeld ⊢
            refine pure_ (i:=0) (N:=some 21) (v:=?_) (a':=?_) #[true,false,false,false,false,false,false,false,false,false,false,false,false,false,false,false,false,false,false,false,false,false,false] rfl rfl (any_of HT_.out (by kernel_rfl)) (fun _ _ _ h => h) (Or.inl ⟨by rfl,?_⟩) ?_ ?_
            rotate_left
            ·intro w'
             go_simp
             with_reducible rfl
            rotate_left
            ·simp only [Act.put,List.setIfInBounds_toArray,List.set_cons_zero,List.set_cons_succ,i64_w,i32_w,IntKind.wrap_u8]
             rfl
            refine pure_ (i:=1) (N:=some 22) (v:=?_) (a':=?_) #[true,true,false,false,false,false,false,false,false,false,false,false,false,false,false,false,false,false,false,false,false,false,false] rfl rfl (any_of HT_.out (by kernel_rfl)) (fun _ _ _ h => h) (Or.inl ⟨by rfl,?_⟩) ?_ ?_
            rotate_left
            ·intro w'
             go_simp
             with_reducible rfl
            rotate_left
            ·simp only [Act.put,List.setIfInBounds_toArray,List.set_cons_zero,List.set_cons_succ,i64_w,i32_w,IntKind.wrap_u8]
             rfl
            refine pure_ (i:=2) (N:=some 23) (v:=?_) (a':=?_) #[true,true,true,false,false,false,false,false,false,false,false,false,false,false,false,false,false,false,false,false,false,false,false] rfl rfl (any_of HT_.out (by kernel_rfl)) (fun _ _ _ h => h) (Or.inl ⟨by rfl,?_⟩) ?_ ?_
            rotate_left
            ·intro w'
             go_simp
             with_reducible rfl
            rotate_left
            ·simp only [Act.put,List.setIfInBounds_toArray,List.set_cons_zero,List.set_cons_succ,i64_w,i32_w,IntKind.wrap_u8]
             rfl
            refine pure_ (i:=3) (N:=some 24) (v:=?_) (a':=?_) #[true,true,true,true,false,false,false,false,false,false,false,false,false,false,false,false,false,false,false,false,false,false,false] rfl rfl (any_of HT_.out (by kernel_rfl)) (fun _ _ _ h => h) (Or.inl ⟨by rfl,?_⟩) ?_ ?_
            rotate_left
            ·intro w'
             go_simp
             with_reducible rfl
            rotate_left
            ·simp only [Act.put,List.setIfInBounds_toArray,List.set_cons_zero,List.set_cons_succ,i64_w,i32_w,IntKind.wrap_u8]
             rfl
            refine pure_ (i:=4) (N:=some 25) (v:=?_) (a':=?_) #[true,true,true,true,true,false,false,false,false,false,false,false,false,false,false,false,false,false,false,false,false,false,false] rfl rfl (any_of HT_.out (by kernel_rfl)) (fun _ _ _ h => h) (Or.inl ⟨by rfl,?_⟩) ?_ ?_
            rotate_left
            ·intro w'
             go_simp
             with_reducible rfl
            rotate_left
            ·simp only [Act.put,List.setIfInBounds_toArray,List.set_cons_zero,List.set_cons_succ,i64_w,i32_w,IntKind.wrap_u8]
             rfl
            refine pure_ (i:=5) (N:=some 26) (v:=?_) (a':=?_) #[true,true,true,true,true,true,false,false,false,false,false,false,false,false,false,false,false,false,false,false,false,false,false] rfl rfl (any_of HT_.out (by kernel_rfl)) (fun _ _ _ h => h) (Or.inl ⟨by rfl,?_⟩) ?_ ?_
            rotate_left
            ·intro w'
             go_simp
             with_reducible rfl
            rotate_left
            ·simp only [Act.put,List.setIfInBounds_toArray,List.set_cons_zero,List.set_cons_succ,i64_w,i32_w,IntKind.wrap_u8]
             rfl
            refine pure_ (i:=6) (N:=some 27) (v:=?_) (a':=?_) #[true,true,true,true,true,true,true,false,false,false,false,false,false,false,false,false,false,false,false,false,false,false,false] rfl rfl (any_of HT_.out (by kernel_rfl)) (fun _ _ _ h => h) (Or.inl ⟨by rfl,?_⟩) ?_ ?_
            rotate_left
            ·intro w'
             go_simp
             with_reducible rfl
            rotate_left
            ·simp only [Act.put,List.setIfInBounds_toArray,List.set_cons_zero,List.set_cons_succ,i64_w,i32_w,IntKind.wrap_u8]
             rfl
            refine pure_ (i:=7) (N:=some 28) (v:=undef) (a':=?_) #[true,true,true,true,true,true,true,true,false,false,false,false,false,false,false,false,false,false,false,false,false,false,false] rfl rfl (any_of HT_.out (by kernel_rfl)) (fun _ _ _ h => h) (Or.inr ⟨by rfl,rfl⟩) ?_ ?_
            rotate_left
            ·simp only [Act.put,List.setIfInBounds_toArray,List.set_cons_zero,List.set_cons_succ,i64_w,i32_w,IntKind.wrap_u8]
             rfl
            refine pure_ (i:=8) (N:=some 29) (v:=undef) (a':=?_) #[true,true,true,true,true,true,true,true,true,false,false,false,false,false,false,false,false,false,false,false,false,false,false] rfl rfl (any_of HT_.out (by kernel_rfl)) (fun _ _ _ h => h) (Or.inr ⟨by rfl,rfl⟩) ?_ ?_
            rotate_left
            ·simp only [Act.put,List.setIfInBounds_toArray,List.set_cons_zero,List.set_cons_succ,i64_w,i32_w,IntKind.wrap_u8]
             rfl
            refine pure_ (i:=9) (N:=some 30) (v:=undef) (a':=?_) #[true,true,true,true,true,true,true,true,true,true,false,false,false,false,false,false,false,false,false,false,false,false,false] rfl rfl (any_of HT_.out (by kernel_rfl)) (fun _ _ _ h => h) (Or.inr ⟨by rfl,rfl⟩) ?_ ?_
            rotate_left
            ·simp only [Act.put,List.setIfInBounds_toArray,List.set_cons_zero,List.set_cons_succ,i64_w,i32_w,IntKind.wrap_u8]
             rfl
            refine pure_ (i:=10) (N:=some 31) (v:=undef) (a':=?_) #[true,true,true,true,true,true,true,true,true,true,true,false,false,false,false,false,false,false,false,false,false,false,false] rfl rfl (any_of HT_.out (by kernel_rfl)) (fun _ _ _ h => h) (Or.inr ⟨by rfl,rfl⟩) ?_ ?_
            rotate_left
            ·simp only [Act.put,List.setIfInBounds_toArray,List.set_cons_zero,List.set_cons_succ,i64_w,i32_w,IntKind.wrap_u8]
             rfl
            refine pure_ (i:=11) (N:=some 32) (v:=undef) (a':=?_) #[true,true,true,true,true,true,true,true,true,true,true,true,false,false,false,false,false,false,false,false,false,false,false] rfl rfl (any_of HT_.out (by kernel_rfl)) (fun _ _ _ h => h) (Or.inr ⟨by rfl,rfl⟩) ?_ ?_
            rotate_left
            ·simp only [Act.put,List.setIfInBounds_toArray,List.set_cons_zero,List.set_cons_succ,i64_w,i32_w,IntKind.wrap_u8]
             rfl
            refine pure_ (i:=12) (N:=some 33) (v:=undef) (a':=?_) #[true,true,true,true,true,true,true,true,true,true,true,true,true,false,false,false,false,false,false,false,false,false,false] rfl rfl (any_of HT_.out (by kernel_rfl)) (fun _ _ _ h => h) (Or.inr ⟨by rfl,rfl⟩) ?_ ?_
            rotate_left
            ·simp only [Act.put,List.setIfInBounds_toArray,List.set_cons_zero,List.set_cons_succ,i64_w,i32_w,IntKind.wrap_u8]
             rfl
            refine pure_ (i:=13) (N:=some 34) (v:=undef) (a':=?_) #[true,true,true,true,true,true,true,true,true,true,true,true,true,true,false,false,false,false,false,false,false,false,false] rfl rfl (any_of HT_.out (by kernel_rfl)) (fun _ _ _ h => h) (Or.inr ⟨by rfl,rfl⟩) ?_ ?_
            rotate_left
            ·simp only [Act.put,List.setIfInBounds_toArray,List.set_cons_zero,List.set_cons_succ,i64_w,i32_w,IntKind.wrap_u8]
             rfl
            refine pure_ (i:=14) (N:=some 35) (v:=undef) (a':=?_) #[true,true,true,true,true,true,true,true,true,true,true,true,true,true,true,false,false,false,false,false,false,false,false] rfl rfl (any_of HT_.out (by kernel_rfl)) (fun _ _ _ h => h) (Or.inr ⟨by rfl,rfl⟩) ?_ ?_
            rotate_left
            ·simp only [Act.put,List.setIfInBounds_toArray,List.set_cons_zero,List.set_cons_succ,i64_w,i32_w,IntKind.wrap_u8]
             rfl
            refine pure_ (i:=15) (N:=some 36) (v:=undef) (a':=?_) #[true,true,true,true,true,true,true,true,true,true,true,true,true,true,true,true,false,false,false,false,false,false,false] rfl rfl (any_of HT_.out (by kernel_rfl)) (fun _ _ _ h => h) (Or.inr ⟨by rfl,rfl⟩) ?_ ?_
            rotate_left
            ·simp only [Act.put,List.setIfInBounds_toArray,List.set_cons_zero,List.set_cons_succ,i64_w,i32_w,IntKind.wrap_u8]
             rfl
            refine pure_ (i:=16) (N:=some 37) (v:=undef) (a':=?_) #[true,true,true,true,true,true,true,true,true,true,true,true,true,true,true,true,true,false,false,false,false,false,false] rfl rfl (any_of HT_.out (by kernel_rfl)) (fun _ _ _ h => h) (Or.inr ⟨by rfl,rfl⟩) ?_ ?_
            rotate_left
            ·simp only [Act.put,List.setIfInBounds_toArray,List.set_cons_zero,List.set_cons_succ,i64_w,i32_w,IntKind.wrap_u8]
             rfl
            refine pure_ (i:=17) (N:=some 38) (v:=undef) (a':=?_) #[true,true,true,true,true,true,true,true,true,true,true,true,true,true,true,true,true,true,false,false,false,false,false] rfl rfl (any_of HT_.out (by kernel_rfl)) (fun _ _ _ h => h) (Or.inr ⟨by rfl,rfl⟩) ?_ ?_
            rotate_left
            ·simp only [Act.put,List.setIfInBounds_toArray,List.set_cons_zero,List.set_cons_succ,i64_w,i32_w,IntKind.wrap_u8]
             rfl
            refine pure_ (i:=18) (N:=some 39) (v:=undef) (a':=?_) #[true,true,true,true,true,true,true,true,true,true,true,true,true,true,true,true,true,true,true,false,false,false,false] rfl rfl (any_of HT_.out (by kernel_rfl)) (fun _ _ _ h => h) (Or.inr ⟨by rfl,rfl⟩) ?_ ?_
            rotate_left
            ·simp only [Act.put,List.setIfInBounds_toArray,List.set_cons_zero,List.set_cons_succ,i64_w,i32_w,IntKind.wrap_u8]
             rfl
            refine pure_ (i:=19) (N:=some 40) (v:=undef) (a':=?_) #[true,true,true,true,true,true,true,true,true,true,true,true,true,true,true,true,true,true,true,true,false,false,false] rfl rfl (any_of HT_.out (by kernel_rfl)) (fun _ _ _ h => h) (Or.inr ⟨by rfl,rfl⟩) ?_ ?_
            rotate_left
            ·simp only [Act.put,List.setIfInBounds_toArray,List.set_cons_zero,List.set_cons_succ,i64_w,i32_w,IntKind.wrap_u8]
             rfl
            refine pure_ (i:=20) (N:=some 41) (v:=undef) (a':=?_) #[true,true,true,true,true,true,true,true,true,true,true,true,true,true,true,true,true,true,true,true,true,false,false] rfl rfl (any_of HT_.out (by kernel_rfl)) (fun _ _ _ h => h) (Or.inr ⟨by rfl,rfl⟩) ?_ ?_
            rotate_left
            ·simp only [Act.put,List.setIfInBounds_toArray,List.set_cons_zero,List.set_cons_succ,i64_w,i32_w,IntKind.wrap_u8]
             rfl
            refine pure_ (i:=21) (N:=some 42) (v:=undef) (a':=?_) #[true,true,true,true,true,true,true,true,true,true,true,true,true,true,true,true,true,true,true,true,true,true,false] rfl rfl (any_of HT_.out (by kernel_rfl)) (fun _ _ _ h => h) (Or.inr ⟨by rfl,rfl⟩) ?_ ?_
            rotate_left
            ·simp only [Act.put,List.setIfInBounds_toArray,List.set_cons_zero,List.set_cons_succ,i64_w,i32_w,IntKind.wrap_u8]
             rfl
            refine pure_ (i:=22) (N:=some 43) (v:=?_) (a':=?_) #[true,true,true,true,true,true,true,true,true,true,true,true,true,true,true,true,true,true,true,true,true,true,true] rfl rfl (any_of HT_.out (by kernel_rfl)) (fun _ _ _ h => h) (Or.inl ⟨by rfl,?_⟩) ?_ ?_
            rotate_left
            ·intro w'
             go_simp
             with_reducible rfl
            rotate_left
            ·simp only [Act.put,List.setIfInBounds_toArray,List.set_cons_zero,List.set_cons_succ,i64_w,i32_w,IntKind.wrap_u8]
             rfl
            refine done_ (done_of HT_.out (by kernel_rfl)) ?_
            obtain ⟨i048,hi048,_,hsz48,_⟩:=info_parts info5
            obtain ⟨A48,hcut48,hA48,hC48⟩:=print_mid_of (P:=Try.prog) (Value.int .u8) 0 29 5 .i64 .i64 Try.underlying29 hi048 hsz48 A0 c0 l0 x6_1 (wrap64 (x6_1 + x7_2)) (zo_) (by first|omega|exact zo_) (zo_) HC0.out
            have HR190:=zm_ (Kd.C_of_reads (h1:=fun _ => rfl) (hA48 _ (Kd.reads_of_C HR0.out)))
            have HC190:=zm_ hC48
            clear hA48 hC48 hi048 hsz48
            try go_wp2_with (first|((with_reducible refine gate_builtin (b:=.append) (xs:=#[.tmp 62,.tmp 68]) rfl ?_);at_builtin;refine Kd.R_append_rows (Kd.int .u8) (w0:=w) w.heap.size rfl (.tmp 62) (.tmp 68) 29 5 (.int .u8 0) 1 rfl Try.underlying29 info5 rfl (by decide) (by omega) u5 x5_1 ((l0.take ((wrap64 (x6_1 + x7_2)) : Int).toNat).drop (x6_1 : Int).toNat) _ _ _ (fun _ => True) (fun _ => False) rfl rfl ?aO ?aR (fun _ _ h => h) (fun _ h => h.elim) ?aF ?aB ?aS ?aL ?_;(case aR => first|(rw [← show ((l0.take ((wrap64 (x6_1 + x7_2)) : Int).toNat).drop (x6_1 : Int).toNat).length = ((wrap64 (x6_1 + x7_2)).toNat - x6_1.toNat) from (by rw [List.length_drop,List.length_take];have h_ : ((wrap64 (x6_1 + x7_2)) : Int) ≤ (l0.length : Int):=zo_;omega)];repeat (first|exact (Kd.C_below HR190.out HB.out)|(with_reducible refine Kd.C_alloc ?_ _)|(with_reducible refine Kd.C_drewN ?_ _)|(with_reducible refine Kd.C_drew ?_)))|(repeat (first|exact (Kd.C_below HR190.out HB.out)|(with_reducible refine Kd.C_alloc ?_ _)|(with_reducible refine Kd.C_drewN ?_ _)|(with_reducible refine Kd.C_drew ?_))));(case aB => exact zB_);(case aF => exact (fun _ _ => trivial));(case aO => exact (by (with_reducible repeat (first|apply Kd.R_alloc|apply Kd.R_drewN|apply Kd.R_drew));exact HO_5.out));(case aS => exact (below_size zB_));(case aL => have:=LMc46.out;have hlx_:=(show ((l0.take ((wrap64 (x6_1 + x7_2)) : Int).toNat).drop (x6_1 : Int).toNat).length = ((wrap64 (x6_1 + x7_2)).toNat - x6_1.toNat) from (by rw [List.length_drop,List.length_take];have h_ : ((wrap64 (x6_1 + x7_2)) : Int) ≤ (l0.length : Int):=zo_;omega));omega);intro v192 w49 ho hb hg hat;rw [← Ny191.out] at ho;have n0_:=zm_ (hb);have n1_:=zm_ (ho);clear HB;clear HO_5;have HB:=n0_;have HO193:=n1_;clear n0_ n1_;clear ho hb hg hat))
            go_roundg k2
            case measure => have:=HK1.out;have:=HK2.out;omega
            case rel => exact ⟨(y191),(wrap64 (x6_1 + x7_2)),zV_,H',⟨by have:=HK1.out;have:=HK2.out;omega⟩,⟨by (with_reducible repeat (first|apply Kd.R_alloc|apply Kd.R_drewN|apply Kd.R_drew));exact HO193.out⟩,⟨by repeat (first|(with_reducible first|exact HB.out|apply za_|apply zn_|apply zd_)|exact HB.out)⟩⟩
           ·rw [if_neg c46] at H
            exact absurd H (by simp)
          ·rw [if_neg c45] at H
           exact absurd H (by simp)
         ·rw [if_neg c44] at H
          exact absurd H (by simp)
        ·rw [if_neg c43] at H
         exact absurd H (by simp)
   ·rw [if_neg c4] at H
    have c4b0 : decide (x6_1 < (l0.length : Int)) = false:=decide_eq_false c4
    clear c4
    have H':=zm_ H
    clear H
    go_wp2
    go_loopg [75] k1 (fun kq v75 w' => ∃ (x75_2 : Int),v75 = .int .i64 x75_2 ∧ Aside0 (impl_SetOf.l2 kq x5_1 l0 (l0.length : Int) x75_2 = some (r1,r2)) ∧ Aside0 (kq ≤ k1) ∧ Aside0 (Kd.R (Kd.int .u8) 5 w' w.heap.size (fun _ => True) u5 x5_1) ∧ Aside0 (Below w.heap.size w w'))
    case atStart => exact ⟨(0),zV_,H',⟨Nat.le_refl _⟩,⟨by (with_reducible repeat (first|apply Kd.R_alloc|apply Kd.R_drewN|apply Kd.R_drew));exact HO_5.out⟩,⟨by repeat (first|(with_reducible first|exact HB.out|apply za_|apply zn_|apply zd_)|exact HB.out)⟩⟩
    case round =>
     clear H'
     try clear p1
     try clear q1
     try clear hx1
     try clear c2
     try clear p2
     try clear c3
     try clear c4
     try clear c4b0
     try clear c5
     try clear c5b0
     try clear p6
     try clear c7
     try clear c8
     try clear c9
     try clear p18
     try clear q18
     try clear hx18
     try clear c24
     try clear c25
     try clear c26
     try clear c30
     try clear c30b0
     try clear c31
     try clear c31b0
     try clear c32
     try clear c32b0
     try clear c34
     try clear c34b0
     try clear c35
     try clear c35b0
     try clear c36
     try clear c43
     try clear c43b0
     try clear c43b1
     try clear c44
     try clear c44b0
     try clear c44b1
     try clear c45
     try clear c45b0
     try clear c45b1
     try clear c46
     try clear hx182_0
     try clear hx183_0
     try clear p182
     try clear p183
     try clear q182
     try clear q183
     obtain ⟨x75_2,rfl,HA,HK2,HO_5,HB⟩:=hrel
     cases gk with
     |zero => exact absurd HA.out (by simp [impl_SetOf.l2])
     |succ k2 =>
      have H:=HA.out
      clear HA
      simp only [impl_SetOf.l2] at H
      by_cases c50 : x75_2 < (l0.length : Int)
      ·rw [if_pos c50] at H
       have c50b0 : decide (x75_2 < (l0.length : Int)) = true:=decide_eq_true c50
       clear c50
       by_cases c51 : 0 ≤ x75_2
       ·rw [if_pos c51] at H
        have c51b0 : decide (0 ≤ x75_2) = true:=decide_eq_true c51
        clear c51
        by_cases c52 : x75_2 < (l0.length : Int)
        ·rw [if_pos c52] at H
         have c52b0 : decide (x75_2 < (l0.length : Int)) = true:=decide_eq_true c52
         clear c52
         replace H:=Option.bind_eq_some_iff.mp H
         obtain ⟨t195,A530,H⟩:=H
         replace H : (if t195 = true then (impl_SetOf.l2 k2 x5_1 l0 (l0.length : Int) (wrap64 (x75_2 + 1))) else (some ((⟨#[]⟩ : ByteArray),false))) = some (r1,r2):=H
         have A53:=zm_ A530
         clear A530
         by_cases c54 : t195 = true
         ·subst c54
          have H1 : (impl_SetOf.l2 k2 x5_1 l0 (l0.length : Int) (wrap64 (x75_2 + 1))) = some (r1,r2):=by rw [if_pos rfl] at H;exact H
          clear H
          have H:=H1
          clear H1
          have H':=zm_ H
          clear H
          have p194 : 0 ≤ (x75_2 : Int):=zo_
          have q194 : x75_2 < (l0.length : Int):=zo_
          obtain ⟨ad194,e194,hx194_0⟩:=Kd.at_int HR0.out x75_2 p194 q194
          cases e194
          replace hx194_0:=(HB.out.cell (zb_ w _ hx194_0)).trans hx194_0
          replace p194:=eq_true p194
          replace q194:=eq_true q194
          go_wp2_with (first|((with_reducible refine gate_callee (f:=38) rfl ?_);refine goesL_ (some 80) rfl rfl Try.func38 (by kernel_rfl) rfl #[.int .u8 (rd l0 x75_2)] rfl zq_ ?_;(with_reducible refine (impl_isSetByte.calls (rd l0 x75_2) true _ A53.out).mono ?_);rintro e w' ⟨rfl,⟨nd,rfl⟩⟩;refine ⟨_,rfl,?_⟩))
          go_roundg k2
          case measure => have:=HK1.out;have:=HK2.out;omega
          case rel => exact ⟨(wrap64 (x75_2 + 1)),zV_,H',⟨by have:=HK1.out;have:=HK2.out;omega⟩,⟨by (with_reducible repeat (first|apply Kd.R_alloc|apply Kd.R_drewN|apply Kd.R_drew));exact HO_5.out⟩,⟨by repeat (first|(with_reducible first|exact HB.out|apply za_|apply zn_|apply zd_)|exact HB.out)⟩⟩
         ·replace c54:=Bool.eq_false_iff.mpr c54
          subst c54
          have H1 : (some ((⟨#[]⟩ : ByteArray),false)) = some (r1,r2):=by rw [if_neg (show ¬ (false = true) by decide)] at H;exact H
          clear H
          have H:=H1
          clear H1
          simp only [Option.some.injEq,Prod.mk.injEq] at H
          obtain ⟨rfl,rfl⟩:=H
          have p194 : 0 ≤ (x75_2 : Int):=zo_
          have q194 : x75_2 < (l0.length : Int):=zo_
          obtain ⟨ad194,e194,hx194_0⟩:=Kd.at_int HR0.out x75_2 p194 q194
          cases e194
          replace hx194_0:=(HB.out.cell (zb_ w _ hx194_0)).trans hx194_0
          replace p194:=eq_true p194
          replace q194:=eq_true q194
          go_wp2_with (first|((with_reducible refine gate_callee (f:=38) rfl ?_);refine goesL_ (some 80) rfl rfl Try.func38 (by kernel_rfl) rfl #[.int .u8 (rd l0 x75_2)] rfl zq_ ?_;(with_reducible refine (impl_isSetByte.calls (rd l0 x75_2) false _ A53.out).mono ?_);rintro e w' ⟨rfl,⟨nd,rfl⟩⟩;refine ⟨_,rfl,?_⟩))
          go_ret2
          refine FIN.out _ _ ?_;exact ⟨zE_,by repeat (first|(with_reducible first|exact HB.out|apply za_|apply zn_|apply zd_)|exact HB.out)⟩
        ·rw [if_neg c52] at H
         exact absurd H (by simp)
       ·rw [if_neg c51] at H
        exact absurd H (by simp)
      ·rw [if_neg c50] at H
       have c50b0 : decide (x75_2 < (l0.length : Int)) = false:=decide_eq_false c50
       clear c50
       replace H:=Option.bind_eq_some_iff.mp H
       obtain ⟨t196,A550,H⟩:=H
       replace H : (if t196 = true then (some (strOfNums x5_1,true)) else (some ((⟨#[]⟩ : ByteArray),false))) = some (r1,r2):=H
       have A55:=zm_ A550
       clear A550
       by_cases c56 : t196 = true
       ·subst c56
        have H1 : (some (strOfNums x5_1,true)) = some (r1,r2):=by rw [if_pos rfl] at H;exact H
        clear H
        have H:=H1
        clear H1
        simp only [Option.some.injEq,Prod.mk.injEq] at H
        obtain ⟨rfl,rfl⟩:=H
        have hcv57:=own_string (P:=Try.prog) Try.underlying29 Try.underlying5 Try.underlying9 (Kd.own_of_R HO_5.out)
        go_wp2_with (first|((with_reducible refine gate_callee (f:=14) rfl ?_);refine goesL_ (some 85) rfl rfl Try.func14 (by kernel_rfl) rfl #[.string (strOfNums x5_1)] rfl zq_ ?_;(with_reducible refine (impl_SetOk.calls k2 (strOfNums x5_1) true _ A55.out).mono ?_);rintro e w58 ⟨rfl,hb⟩;refine ⟨_,rfl,?_⟩;have n0_:=zm_ (Kd.R_below (by (with_reducible repeat (first|apply Kd.R_alloc|apply Kd.R_drewN|apply Kd.R_drew));exact HO_5.out) hb);have n1_:=zm_ (below_step zB_ hb);clear HO_5;clear HB;have HO_5:=n0_;have HB:=n1_;clear n0_ n1_;(try clear hb);have hcv59:=own_string (P:=Try.prog) Try.underlying29 Try.underlying5 Try.underlying9 (Kd.own_of_R HO_5.out)))
        go_ret2
        refine FIN.out _ _ ?_;exact ⟨zE_,by repeat (first|(with_reducible first|exact HB.out|apply za_|apply zn_|apply zd_)|exact HB.out)⟩
       ·replace c56:=Bool.eq_false_iff.mpr c56
        subst c56
        have H1 : (some ((⟨#[]⟩ : ByteArray),false)) = some (r1,r2):=by rw [if_neg (show ¬ (false = true) by decide)] at H;exact H
        clear H
        have H:=H1
        clear H1
        simp only [Option.some.injEq,Prod.mk.injEq] at H
        obtain ⟨rfl,rfl⟩:=H
        have hcv60:=own_string (P:=Try.prog) Try.underlying29 Try.underlying5 Try.underlying9 (Kd.own_of_R HO_5.out)
        go_wp2_with (first|((with_reducible refine gate_callee (f:=14) rfl ?_);refine goesL_ (some 85) rfl rfl Try.func14 (by kernel_rfl) rfl #[.string (strOfNums x5_1)] rfl zq_ ?_;(with_reducible refine (impl_SetOk.calls k2 (strOfNums x5_1) false _ A55.out).mono ?_);rintro e w61 ⟨rfl,hb⟩;refine ⟨_,rfl,?_⟩;have n0_:=zm_ (Kd.R_below (by (with_reducible repeat (first|apply Kd.R_alloc|apply Kd.R_drewN|apply Kd.R_drew));exact HO_5.out) hb);have n1_:=zm_ (below_step zB_ hb);clear HO_5;clear HB;have HO_5:=n0_;have HB:=n1_;clear n0_ n1_;(try clear hb)))
        go_ret2
        refine FIN.out _ _ ?_;exact ⟨zE_,by repeat (first|(with_reducible first|exact HB.out|apply za_|apply zn_|apply zd_)|exact HB.out)⟩

end Go.Proofs.Ytbkncnlehlldeaa.MFnSetsMet
