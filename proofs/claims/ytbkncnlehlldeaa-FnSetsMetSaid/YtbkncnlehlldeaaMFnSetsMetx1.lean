import Derived.Test.YtbkncnlehlldeaaMFnSetsMetx0
namespace Go.Proofs.Ytbkncnlehlldeaa.MFnSetsMet
open Go.RowKit Go.Proofs.YtbkncnlehlldeaaW.PrintWords Go.Proofs.YtbkncnlehlldeaaW.PrintLast Go.Proofs.YtbkncnlehlldeaaW.PrintMore
attribute [local go_sem] max2_int min2_int max_two min_two max_three min_three max_four min_four
set_option linter.unusedVariables false
set_option linter.unusedSimpArgs false


def slices_Sort_byte_byte.f (l0 : List Int) : Option (List Int):=if l0.length < 4611686018427387904 then some (Srt.msort l0) else none
theorem slices_Sort_byte_byte.calls (P0_ : Nat → Prop) (u9000_ : Value) (l0 : List Int) (r : List Int) (w0 w : World) (hB : Below w0.heap.size w0 w) (ho0 : Kd.R (Kd.int .u8) 5 w w0.heap.size P0_ u9000_ l0) (h : slices_Sort_byte_byte.f l0 = some r) :
  Calls Try.prog 36 #[u9000_] w fun e w' => e = .returned (.tuple #[]) ∧ Kd.R (Kd.int .u8) 5 w' w0.heap.size (fun k_ => (P0_ k_ ∨ w.heap.size ≤ k_)) u9000_ r ∧ Below w0.heap.size w0 w' ∧ Kept w w' (fun k_ => P0_ k_):=by
 unfold slices_Sort_byte_byte.f at h
 by_cases hl : l0.length < 4611686018427387904
 ·rw [if_pos hl] at h
  obtain rfl:=Option.some.inj h
  exact Srt.sort_own P0_ u9000_ l0 w0 w hB ho0 hl
 ·rw [if_neg hl] at h
  cases h


def slices_Compact_byte_byte.f (l0 : List Int) : Option (List Int):=if l0.length < 4611686018427387904 then some (Srt.dd l0) else none
theorem slices_Compact_byte_byte.calls (P0_ : Nat → Prop) (u9000_ : Value) (l0 : List Int) (r : List Int) (w0 w : World) (hB : Below w0.heap.size w0 w) (ho0 : Kd.R (Kd.int .u8) 5 w w0.heap.size P0_ u9000_ l0) (h : slices_Compact_byte_byte.f l0 = some r) :
  Calls Try.prog 37 #[u9000_] w fun e w' => ∃ v0_ : Value,e = .returned (v0_) ∧ Kd.R (Kd.int .u8) 5 w' w0.heap.size (fun k_ => (P0_ k_ ∨ w.heap.size ≤ k_)) v0_ r ∧ Below w0.heap.size w0 w' ∧ Kept w w' (fun k_ => P0_ k_):=by
 unfold slices_Compact_byte_byte.f at h
 by_cases hl : l0.length < 4611686018427387904
 ·rw [if_pos hl] at h
  obtain rfl:=Option.some.inj h
  exact Srt.compact_own P0_ u9000_ l0 w0 w hB ho0 hl
 ·rw [if_neg hl] at h
  cases h

def impl_within.f (a0 : Int) (a1 : Int) (a2 : Int) : Option (Bool):=if a0 ≥ a1 then (some (decide (a0 ≤ a2))) else (some false)
set_option maxHeartbeats 8000000 in
set_option maxRecDepth 100000 in
theorem impl_within.calls (a0 : Int) (a1 : Int) (a2 : Int) (r : Bool) (w : World) (h : impl_within.f a0 a1 a2 = some r) :
  Calls Try.prog 47 #[.int .i64 a0,.int .i64 a1,.int .i64 a2] w fun e w' => e = .returned (.bool r) ∧ Drawn0 w w':=by
 have H : (if a0 ≥ a1 then (some (decide (a0 ≤ a2))) else (some false)) = some r:=h
 clear h
 by_cases c4 : a0 ≥ a1
 ·rw [if_pos c4] at H
  have c4b0 : decide (a1 ≤ a0) = true:=decide_eq_true c4
  clear c4
  obtain rfl:=Option.some.inj H
  go_enter Try.func47,Try.ntmps47
  go_wp2
  go_ret
  exact ⟨by first|rfl|(simp;done)|(simp [*];done),by repeat (first|exact Drawn0.refl _|apply Drawn0.step)⟩
 ·rw [if_neg c4] at H
  have c4b0 : decide (a1 ≤ a0) = false:=decide_eq_false c4
  clear c4
  obtain rfl:=Option.some.inj H
  go_enter Try.func47,Try.ntmps47
  go_wp2
  go_ret
  exact ⟨by first|rfl|(simp;done)|(simp [*];done),by repeat (first|exact Drawn0.refl _|apply Drawn0.step)⟩

def impl_isSmall.f (a0 : Int) : Option (Bool):=(impl_within.f (wrap64 (a0)) 97 122).bind fun t101 => (some t101)
set_option maxHeartbeats 8000000 in
set_option maxRecDepth 100000 in
theorem impl_isSmall.calls (a0 : Int) (r : Bool) (w : World) (h : impl_isSmall.f a0 = some r) :
  Calls Try.prog 46 #[.int .u8 a0] w fun e w' => e = .returned (.bool r) ∧ Drawn0 w w':=by
 have H : ((impl_within.f (wrap64 (a0)) 97 122).bind fun t101 => (some t101)) = some r:=h
 clear h
 replace H:=Option.bind_eq_some_iff.mp H
 obtain ⟨t101,A20,H⟩:=H
 replace H : (some t101) = some r:=H
 have A2:=zm_ A20
 clear A20
 obtain rfl:=Option.some.inj H
 go_enter Try.func46,Try.ntmps46
 go_wp2_with (first|((with_reducible refine gate_callee (f:=47) rfl ?_);refine goesL_ (some 5) rfl rfl Try.func47 (by kernel_rfl) rfl #[.int .i64 (wrap64 (a0)),.int .i64 97,.int .i64 122] rfl zq_ ?_;(with_reducible refine (impl_within.calls (wrap64 (a0)) 97 122 t101 _ A2.out).mono ?_);rintro e w' ⟨rfl,⟨nd,rfl⟩⟩;refine ⟨_,rfl,?_⟩))
 go_ret
 exact ⟨by first|rfl|(simp;done)|(simp [*];done),by repeat (first|exact Drawn0.refl _|apply Drawn0.step)⟩

def impl_isFigure.f (a0 : Int) : Option (Bool):=(impl_within.f (wrap64 (a0)) 48 57).bind fun t102 => (some t102)
set_option maxHeartbeats 8000000 in
set_option maxRecDepth 100000 in
theorem impl_isFigure.calls (a0 : Int) (r : Bool) (w : World) (h : impl_isFigure.f a0 = some r) :
  Calls Try.prog 51 #[.int .u8 a0] w fun e w' => e = .returned (.bool r) ∧ Drawn0 w w':=by
 have H : ((impl_within.f (wrap64 (a0)) 48 57).bind fun t102 => (some t102)) = some r:=h
 clear h
 replace H:=Option.bind_eq_some_iff.mp H
 obtain ⟨t102,A20,H⟩:=H
 replace H : (some t102) = some r:=H
 have A2:=zm_ A20
 clear A20
 obtain rfl:=Option.some.inj H
 go_enter Try.func51,Try.ntmps51
 go_wp2_with (first|((with_reducible refine gate_callee (f:=47) rfl ?_);refine goesL_ (some 5) rfl rfl Try.func47 (by kernel_rfl) rfl #[.int .i64 (wrap64 (a0)),.int .i64 48,.int .i64 57] rfl zq_ ?_;(with_reducible refine (impl_within.calls (wrap64 (a0)) 48 57 t102 _ A2.out).mono ?_);rintro e w' ⟨rfl,⟨nd,rfl⟩⟩;refine ⟨_,rfl,?_⟩))
 go_ret
 exact ⟨by first|rfl|(simp;done)|(simp [*];done),by repeat (first|exact Drawn0.refl _|apply Drawn0.step)⟩

def impl_isSetByte.f (a0 : Int) : Option (Bool):=(impl_isSmall.f a0).bind fun t103 => (if t103 = true then (some true) else ((impl_isFigure.f a0).bind fun t104 => (some t104)))
set_option maxHeartbeats 8000000 in
set_option maxRecDepth 100000 in
theorem impl_isSetByte.calls (a0 : Int) (r : Bool) (w : World) (h : impl_isSetByte.f a0 = some r) :
  Calls Try.prog 38 #[.int .u8 a0] w fun e w' => e = .returned (.bool r) ∧ Drawn0 w w':=by
 have H : ((impl_isSmall.f a0).bind fun t103 => (if t103 = true then (some true) else ((impl_isFigure.f a0).bind fun t104 => (some t104)))) = some r:=h
 clear h
 replace H:=Option.bind_eq_some_iff.mp H
 obtain ⟨t103,A20,H⟩:=H
 replace H : (if t103 = true then (some true) else ((impl_isFigure.f a0).bind fun t104 => (some t104))) = some r:=H
 have A2:=zm_ A20
 clear A20
 by_cases c3 : t103 = true
 ·subst c3
  have H1 : (some true) = some r:=by rw [if_pos rfl] at H;exact H
  clear H
  have H:=H1
  clear H1
  obtain rfl:=Option.some.inj H
  go_enter Try.func38,Try.ntmps38
  go_wp2_with (first|((with_reducible refine gate_callee (f:=46) rfl ?_);refine goesL_ (some 4) rfl rfl Try.func46 (by kernel_rfl) rfl #[.int .u8 a0] rfl zq_ ?_;(with_reducible refine (impl_isSmall.calls a0 true _ A2.out).mono ?_);rintro e w' ⟨rfl,⟨nd,rfl⟩⟩;refine ⟨_,rfl,?_⟩))
  go_ret
  exact ⟨by first|rfl|(simp;done)|(simp [*];done),by repeat (first|exact Drawn0.refl _|apply Drawn0.step)⟩
 ·replace c3:=Bool.eq_false_iff.mpr c3
  subst c3
  have H1 : ((impl_isFigure.f a0).bind fun t104 => (some t104)) = some r:=by rw [if_neg (show ¬ (false = true) by decide)] at H;exact H
  clear H
  have H:=H1
  clear H1
  replace H:=Option.bind_eq_some_iff.mp H
  obtain ⟨t104,A40,H⟩:=H
  replace H : (some t104) = some r:=H
  have A4:=zm_ A40
  clear A40
  obtain rfl:=Option.some.inj H
  go_enter Try.func38,Try.ntmps38
  go_wp2_with (first|((with_reducible refine gate_callee (f:=46) rfl ?_);refine goesL_ (some 4) rfl rfl Try.func46 (by kernel_rfl) rfl #[.int .u8 a0] rfl zq_ ?_;(with_reducible refine (impl_isSmall.calls a0 false _ A2.out).mono ?_);rintro e w' ⟨rfl,⟨nd,rfl⟩⟩;refine ⟨_,rfl,?_⟩)|(go_at_call 51;(with_reducible refine (impl_isFigure.calls a0 t104 _ A4.out).mono ?_);rintro e w' ⟨rfl,⟨nd,rfl⟩⟩))
  go_ret
  exact ⟨by first|rfl|(simp;done)|(simp [*];done),by repeat (first|exact Drawn0.refl _|apply Drawn0.step)⟩

mutual
def impl_readSet.l0 : Nat → ByteArray → List Int → Int → Option (List Int × Bool)
 |0,_,_,_ => none
 |k + 1,x0,x4,x5 => if x5 < (x0.size : Int) then (if 0 ≤ x5 then (if (wrap64 (x5 + 1)) < (x0.size : Int) then (if 0 ≤ (wrap64 (x5 + 1)) then (impl_readSet.j1 k x0 x4 (wrap64 (x5 + 1)) (bt x0 x5) (bt x0 x5) ((bt x0 (wrap64 (x5 + 1))) == 45)) else (none)) else (impl_readSet.j1 k x0 x4 (wrap64 (x5 + 1)) (bt x0 x5) (bt x0 x5) false)) else (none)) else ((slices_Sort_byte_byte.f x4).bind fun t108 => ((slices_Compact_byte_byte.f t108).bind fun t109 => ((impl_within.f (x0.size : Int) 1 12).bind fun t112 => (some (t109,t112)))))
def impl_readSet.j1 : Nat → ByteArray → List Int → Int → Int → Int → Bool → Option (List Int × Bool)
 |0,_,_,_,_,_,_ => none
 |k + 1,x0,x4,x5,x6,x7,x31 => if x31 = true then (if (wrap64 (x5 + 1)) = (x0.size : Int) then (some (([] : List Int),false)) else (if 0 ≤ (wrap64 (x5 + 1)) then (if (wrap64 (x5 + 1)) < (x0.size : Int) then (impl_readSet.j2 k x0 x4 (wrap64 (x5 + 2)) x6 (bt x0 (wrap64 (x5 + 1)))) else (none)) else (none))) else (impl_readSet.j2 k x0 x4 x5 x6 x7)
def impl_readSet.j2 : Nat → ByteArray → List Int → Int → Int → Int → Option (List Int × Bool)
 |0,_,_,_,_,_ => none
 |k + 1,x0,x4,x5,x6,x7 => (impl_isSetByte.f x6).bind fun t113 => (if t113 = true then ((impl_isSetByte.f x7).bind fun t114 => (if t114 = true then ((impl_isSmall.f x6).bind fun t115 => ((impl_isSmall.f x7).bind fun t116 => (if (t115 != t116) = true then (impl_readSet.j3 k x0 x4 x5 x6 x7 true) else (impl_readSet.j3 k x0 x4 x5 x6 x7 (decide (x7 < x6)))))) else (impl_readSet.j3 k x0 x4 x5 x6 x7 true))) else (impl_readSet.j3 k x0 x4 x5 x6 x7 true))
def impl_readSet.j3 : Nat → ByteArray → List Int → Int → Int → Int → Bool → Option (List Int × Bool)
 |0,_,_,_,_,_,_ => none
 |k + 1,x0,x4,x5,x6,x7,x62 => if x62 = true then (some (([] : List Int),false)) else (impl_readSet.l1 k x0 x4 x5 x7 (wrap64 (x6)))
def impl_readSet.l1 : Nat → ByteArray → List Int → Int → Int → Int → Option (List Int × Bool)
 |0,_,_,_,_,_ => none
 |k + 1,x0,x4,x5,x7,x8 => if x8 ≤ (wrap64 (x7)) then (if x4.length < 140737488355328 then (impl_readSet.l1 k x0 (x4 ++ [(x8) % 256]) x5 x7 (wrap64 (x8 + 1))) else (none)) else (impl_readSet.l0 k x0 x4 x5)
end
def impl_readSet.f (k : Nat) (a0 : ByteArray) : Option (List Int × Bool):=impl_readSet.l0 k a0 (([] : List Int)) 0
theorem impl_readSet.mono_l : ∀ k,(∀ y0 y1 y2,LeO (impl_readSet.l0 k y0 y1 y2) (impl_readSet.l0 (k + 1) y0 y1 y2)) ∧ (∀ y0 y1 y2 y3 y4 y5,LeO (impl_readSet.j1 k y0 y1 y2 y3 y4 y5) (impl_readSet.j1 (k + 1) y0 y1 y2 y3 y4 y5)) ∧ (∀ y0 y1 y2 y3 y4,LeO (impl_readSet.j2 k y0 y1 y2 y3 y4) (impl_readSet.j2 (k + 1) y0 y1 y2 y3 y4)) ∧ (∀ y0 y1 y2 y3 y4 y5,LeO (impl_readSet.j3 k y0 y1 y2 y3 y4 y5) (impl_readSet.j3 (k + 1) y0 y1 y2 y3 y4 y5)) ∧ (∀ y0 y1 y2 y3 y4,LeO (impl_readSet.l1 k y0 y1 y2 y3 y4) (impl_readSet.l1 (k + 1) y0 y1 y2 y3 y4))
 |0 => ⟨fun _ _ _ r h => by simp [impl_readSet.l0] at h,fun _ _ _ _ _ _ r h => by simp [impl_readSet.j1] at h,fun _ _ _ _ _ r h => by simp [impl_readSet.j2] at h,fun _ _ _ _ _ _ r h => by simp [impl_readSet.j3] at h,fun _ _ _ _ _ r h => by simp [impl_readSet.l1] at h⟩
 |k + 1 => by
  obtain ⟨ih0,ih1,ih2,ih3,ih4⟩:=impl_readSet.mono_l k
  refine ⟨?_,?_,?_,?_,?_⟩
  ·intro y0 y1 y2
   unfold impl_readSet.l0
   repeat' first
   |(with_reducible exact ih0 _ _ _)
   |(with_reducible exact ih1 _ _ _ _ _ _)
   |(with_reducible exact ih2 _ _ _ _ _)
   |(with_reducible exact ih3 _ _ _ _ _ _)
   |(with_reducible exact ih4 _ _ _ _ _)
   |(with_reducible exact LeO.refl _)
   |(with_reducible exact LeO.none _)
   |(with_reducible refine LeO.ite ?_ ?_)
   |(with_reducible refine LeO.bind ?_ (fun _ => ?_))
  ·intro y0 y1 y2 y3 y4 y5
   unfold impl_readSet.j1
   repeat' first
   |(with_reducible exact ih0 _ _ _)
   |(with_reducible exact ih1 _ _ _ _ _ _)
   |(with_reducible exact ih2 _ _ _ _ _)
   |(with_reducible exact ih3 _ _ _ _ _ _)
   |(with_reducible exact ih4 _ _ _ _ _)
   |(with_reducible exact LeO.refl _)
   |(with_reducible exact LeO.none _)
   |(with_reducible refine LeO.ite ?_ ?_)
   |(with_reducible refine LeO.bind ?_ (fun _ => ?_))
  ·intro y0 y1 y2 y3 y4
   unfold impl_readSet.j2
   repeat' first
   |(with_reducible exact ih0 _ _ _)
   |(with_reducible exact ih1 _ _ _ _ _ _)
   |(with_reducible exact ih2 _ _ _ _ _)
   |(with_reducible exact ih3 _ _ _ _ _ _)
   |(with_reducible exact ih4 _ _ _ _ _)
   |(with_reducible exact LeO.refl _)
   |(with_reducible exact LeO.none _)
   |(with_reducible refine LeO.ite ?_ ?_)
   |(with_reducible refine LeO.bind ?_ (fun _ => ?_))
  ·intro y0 y1 y2 y3 y4 y5
   unfold impl_readSet.j3
   repeat' first
   |(with_reducible exact ih0 _ _ _)
   |(with_reducible exact ih1 _ _ _ _ _ _)
   |(with_reducible exact ih2 _ _ _ _ _)
   |(with_reducible exact ih3 _ _ _ _ _ _)
   |(with_reducible exact ih4 _ _ _ _ _)
   |(with_reducible exact LeO.refl _)
   |(with_reducible exact LeO.none _)
   |(with_reducible refine LeO.ite ?_ ?_)
   |(with_reducible refine LeO.bind ?_ (fun _ => ?_))
  ·intro y0 y1 y2 y3 y4
   unfold impl_readSet.l1
   repeat' first
   |(with_reducible exact ih0 _ _ _)
   |(with_reducible exact ih1 _ _ _ _ _ _)
   |(with_reducible exact ih2 _ _ _ _ _)
   |(with_reducible exact ih3 _ _ _ _ _ _)
   |(with_reducible exact ih4 _ _ _ _ _)
   |(with_reducible exact LeO.refl _)
   |(with_reducible exact LeO.none _)
   |(with_reducible refine LeO.ite ?_ ?_)
   |(with_reducible refine LeO.bind ?_ (fun _ => ?_))
theorem impl_readSet.mono : ∀ a0 k,LeO (impl_readSet.f k a0) (impl_readSet.f (k + 1) a0):=by
 intro a0 k
 obtain ⟨ih0,ih1,ih2,ih3,ih4⟩:=impl_readSet.mono_l k
 unfold impl_readSet.f
 repeat' first
   |(with_reducible exact ih0 _ _ _)
   |(with_reducible exact ih1 _ _ _ _ _ _)
   |(with_reducible exact ih2 _ _ _ _ _)
   |(with_reducible exact ih3 _ _ _ _ _ _)
   |(with_reducible exact ih4 _ _ _ _ _)
   |(with_reducible exact LeO.refl _)
   |(with_reducible exact LeO.none _)
   |(with_reducible refine LeO.ite ?_ ?_)
   |(with_reducible refine LeO.bind ?_ (fun _ => ?_))
set_option maxHeartbeats 8000000 in
set_option maxRecDepth 100000 in
theorem impl_readSet.calls (k : Nat) (a0 : ByteArray) (r1 : List Int) (r2 : Bool) (w : World) (h : impl_readSet.f k a0 = some (r1,r2)) :
  Calls Try.prog 33 #[.string a0] w fun e w' => ∃ v0_ : Value,e = .returned (.tuple #[v0_,.bool r2]) ∧ Kd.R (Kd.int .u8) 5 w' w.heap.size (fun _ => True) v0_ r1 ∧ Below w.heap.size w w':=by
 have HB:=zm_ (Below.refl w.heap.size w)
 have H : (impl_readSet.l0 k a0 (([] : List Int)) 0) = some (r1,r2):=h
 clear h
 obtain ⟨y105,hy105⟩ : ∃ y_ : List Int,y_ = (([] : List Int)):=⟨_,rfl⟩
 replace H : (impl_readSet.l0 k a0 y105 0) = some (r1,r2):=by first|(rw [hy105];with_reducible exact H)|(have H2_:=(Option.bind_some _ _).symm.trans H;rw [hy105];with_reducible exact H2_)|(have H2_:=(Option.bind_some _ _).symm.trans H;with_reducible exact H2_)|with_reducible exact H|(rw [hy105];exact H)|exact H
 have Ny105:=zm_ hy105
 clear hy105
 have H':=zm_ H
 clear H
 go_enter Try.func33,Try.ntmps33
 go_wp2_with (first|((with_reducible refine gate_dst (N:=9) rfl ?_);refine Kd.R_lit (Kd.int .u8) _ 5 ?hg (N:=9) ?hd (xs:=([] : List Int)) (inner:=[]) (ok:=fun _ => True) (okp:=fun _ => True) ?hr ?hp (fun _ hk => hk) trivial (Below.refl _ _) (Nat.le_refl _) (by simp) ?_;(case hd => rfl);(case hg => rfl);(case hr => first|(go_simp;done)|(go_simp;rfl));(case hp => exact (Reps.none _ _));intro v106 w2 ho3 hb hg_ hnew_;clear hg_ hnew_;(first|rw [← Ny105.out] at ho3|(simp only [Int.reduceToNat] at ho3;rw [← Ny105.out] at ho3));have n0_:=zm_ (Kd.R_lower ho3 (below_size zB_));have n1_:=zm_ (below_step zB_ hb);clear HB;have HO107:=n0_;have HB:=n1_;clear n0_ n1_;clear hb ho3))
 repeat (go_quiet (first|((with_reducible refine gate_dst (N:=9) rfl ?_);refine Kd.R_lit (Kd.int .u8) _ 5 ?hg (N:=9) ?hd (xs:=([] : List Int)) (inner:=[]) (ok:=fun _ => True) (okp:=fun _ => True) ?hr ?hp (fun _ hk => hk) trivial (Below.refl _ _) (Nat.le_refl _) (by simp) ?_;(case hd => rfl);(case hg => rfl);(case hr => first|(go_simp;done)|(go_simp;rfl));(case hp => exact (Reps.none _ _));intro v106 w2 ho3 hb hg_ hnew_;clear hg_ hnew_;(first|rw [← Ny105.out] at ho3|(simp only [Int.reduceToNat] at ho3;rw [← Ny105.out] at ho3));have n0_:=zm_ (Kd.R_lower ho3 (below_size zB_));have n1_:=zm_ (below_step zB_ hb);clear HB;have HO107:=n0_;have HB:=n1_;clear n0_ n1_;clear hb ho3));try go_wp2_with (first|((with_reducible refine gate_dst (N:=9) rfl ?_);refine Kd.R_lit (Kd.int .u8) _ 5 ?hg (N:=9) ?hd (xs:=([] : List Int)) (inner:=[]) (ok:=fun _ => True) (okp:=fun _ => True) ?hr ?hp (fun _ hk => hk) trivial (Below.refl _ _) (Nat.le_refl _) (by simp) ?_;(case hd => rfl);(case hg => rfl);(case hr => first|(go_simp;done)|(go_simp;rfl));(case hp => exact (Reps.none _ _));intro v106 w2 ho3 hb hg_ hnew_;clear hg_ hnew_;(first|rw [← Ny105.out] at ho3|(simp only [Int.reduceToNat] at ho3;rw [← Ny105.out] at ho3));have n0_:=zm_ (Kd.R_lower ho3 (below_size zB_));have n1_:=zm_ (below_step zB_ hb);clear HB;have HO107:=n0_;have HB:=n1_;clear n0_ n1_;clear hb ho3)))
 go_loopg [4,5] k (fun kq v4 v5 w' => ∃ (x4_1 : List Int) (x5_1 : Int),v5 = .int .i64 x5_1 ∧ Aside0 (impl_readSet.l0 kq a0 x4_1 x5_1 = some (r1,r2)) ∧ Aside0 (kq ≤ k) ∧ Aside0 (Kd.R (Kd.int .u8) 5 w' w.heap.size (fun _ => True) v4 x4_1) ∧ Aside0 (Below w.heap.size w w'))
 case atStart => exact ⟨(y105),(0),zV_,H',⟨Nat.le_refl _⟩,⟨by (with_reducible repeat (first|apply Kd.R_alloc|apply Kd.R_drewN|apply Kd.R_drew));exact HO107.out⟩,⟨by repeat (first|(with_reducible first|exact HB.out|apply za_|apply zn_|apply zd_)|exact HB.out)⟩⟩
 case round =>
  clear H'
  try clear p2
  try clear c3
  obtain ⟨x4_1,x5_1,rfl,HA,HK1,HO_4,HB⟩:=hrel
  cases gk with
  |zero => exact absurd HA.out (by simp [impl_readSet.l0])
  |succ k1 =>
   have H:=HA.out
   clear HA
   simp only [impl_readSet.l0] at H
   by_cases c4 : x5_1 < (a0.size : Int)
   ·rw [if_pos c4] at H
    have c4b0 : decide (x5_1 < (a0.size : Int)) = true:=decide_eq_true c4
    clear c4
    by_cases c5 : 0 ≤ x5_1
    ·rw [if_pos c5] at H
     have c5b0 : decide (0 ≤ x5_1) = true:=decide_eq_true c5
     clear c5
     have HC8:=zm_ H
     clear H
     have p6 : 0 ≤ (x5_1 : Int):=zo_
     have q6 : x5_1 < (a0.size : Int):=zo_
     have hx6:=bt_at a0 x5_1
     replace p6:=eq_true p6
     replace q6:=eq_true q6
     have p7 : 0 ≤ (x5_1 : Int):=zo_
     have q7 : x5_1 < (a0.size : Int):=zo_
     have hx7:=bt_at a0 x5_1
     replace p7:=eq_true p7
     replace q7:=eq_true q7
     go_upto_region 6 with (fail)
     repeat (go_quiet (fail);go_upto_region 6 with (fail))
     go_cut [31] (fun v31 wc => ∃ (kq : Nat) (x31_7 : Bool),v31 = .bool x31_7 ∧ Aside0 (impl_readSet.j1 kq a0 x4_1 (wrap64 (x5_1 + 1)) (bt a0 x5_1) (bt a0 x5_1) x31_7 = some (r1,r2)) ∧ Aside0 (kq ≤ k1) ∧ Aside0 (Kd.R (Kd.int .u8) 5 wc w.heap.size (fun _ => True) u4 x4_1) ∧ Aside0 (Below w.heap.size w wc))
     case first =>
      have H:=HC8.out
      clear HC8
      by_cases c9 : (wrap64 (x5_1 + 1)) < (a0.size : Int)
      ·rw [if_pos c9] at H
       have c9b0 : decide ((wrap64 (x5_1 + 1)) < (a0.size : Int)) = true:=decide_eq_true c9
       clear c9
       (first|rw [c9b0]|(simp only [i64_w,i32_w];rw [c9b0])|skip)
       obtain ⟨ji10,hji10⟩ : ∃ j_ : Int,(wrap64 (x5_1 + 1)) = j_:=⟨_,rfl⟩
       replace H : (if 0 ≤ (ji10) then (impl_readSet.j1 k1 a0 x4_1 ji10 (bt a0 x5_1) (bt a0 x5_1) ((bt a0 (ji10)) == 45)) else (none)) = some (r1,r2):=by first|(rw [hji10] at H;exact H)|(simp only [hji10] at H ⊢;exact H)
       (try rw [hji10] at c9b0)
       have hji10w : (IntKind.i64.wrap (x5_1 + 1)) = ji10:=(i64_w _).trans hji10
       by_cases c11 : 0 ≤ (ji10)
       ·rw [if_pos c11] at H
        have c11b0 : decide (0 ≤ (ji10)) = true:=decide_eq_true c11
        clear c11
        have H':=zm_ H
        clear H
        have p12 : 0 ≤ ((ji10) : Int):=zo_
        have q12 : (ji10) < (a0.size : Int):=zo_
        have hx12:=bt_at a0 (ji10)
        replace p12:=eq_true p12
        replace q12:=eq_true q12
        go_wp2
        repeat (go_quiet (fail);try go_wp2)
        go_meet
        case rel => exact ⟨_,(((bt a0 (ji10)) == 45)),(by first|rfl|(exact congrArg Value.bool (isEmpty_ne _))|(exact congrArg Value.bool (isEmpty_ne' _))|(exact congrArg Value.bool (isEmpty_eq _))|(simp;done)|(simp only [← hji10] <;> (first|rfl|simp))|(simp [*];done)),(by first|exact H'|(rw [hji10];exact H')|(simp only [hji10];exact H')),⟨by have:=HK1.out;first|omega|exact Nat.le_refl _⟩,⟨by (with_reducible repeat (first|apply Kd.R_alloc|apply Kd.R_drewN|apply Kd.R_drew));exact HO_4.out⟩,⟨by repeat (first|(with_reducible first|exact HB.out|apply za_|apply zn_|apply zd_)|exact HB.out)⟩⟩
       ·rw [if_neg c11] at H
        exact absurd H (by simp)
      ·rw [if_neg c9] at H
       have c9b0 : decide ((wrap64 (x5_1 + 1)) < (a0.size : Int)) = false:=decide_eq_false c9
       clear c9
       (first|rw [c9b0]|(simp only [i64_w,i32_w];rw [c9b0])|skip)
       have H':=zm_ H
       clear H
       go_wp2
       repeat (go_quiet (fail);try go_wp2)
       go_meet
       case rel => exact ⟨_,(false),zV_,H',⟨by have:=HK1.out;first|omega|exact Nat.le_refl _⟩,⟨by (with_reducible repeat (first|apply Kd.R_alloc|apply Kd.R_drewN|apply Kd.R_drew));exact HO_4.out⟩,⟨by repeat (first|(with_reducible first|exact HB.out|apply za_|apply zn_|apply zd_)|exact HB.out)⟩⟩
     case rest =>
      clear HC8
      try clear c1
      try clear p1
      try clear q1
      try clear hx1
      try clear p2
      try clear c3
      try clear c4
      try clear c4b0
      try clear c5
      try clear c5b0
      try clear p6
      try clear q6
      try clear hx6
      try clear p7
      try clear q7
      try clear hx7
      try clear c9
      try clear c9b0
      try clear c11
      try clear c11b0
      try clear p12
      try clear q12
      try clear hx12
      try clear p12
      try clear p2
      try clear p6
      try clear p7
      try clear q12
      try clear q6
      try clear q7
      obtain ⟨kq,x31_7,rfl,HA,HJ7,HO_4,HB⟩:=hcut
      cases kq with
      |zero => exact absurd HA.out (by simp [impl_readSet.j1])
      |succ kj7 =>
       have H:=HA.out
       clear HA
       simp only [impl_readSet.j1] at H
       have HC13:=zm_ H
       clear H
       go_upto_if 31 with (fail)
       repeat (go_quiet (fail);go_upto_if 31 with (fail))
       go_cut [5,7] (fun v5 v7 wc => ∃ (kq : Nat) (x5_12 : Int) (x7_12 : Int),v5 = .int .i64 x5_12 ∧ v7 = .int .u8 x7_12 ∧ Aside0 (impl_readSet.j2 kq a0 x4_1 x5_12 (bt a0 x5_1) x7_12 = some (r1,r2)) ∧ Aside0 (kq ≤ kj7) ∧ Aside0 (Kd.R (Kd.int .u8) 5 wc w.heap.size (fun _ => True) u4 x4_1) ∧ Aside0 (Below w.heap.size w wc))
       case first =>
        have H:=HC13.out
        clear HC13
        by_cases c14 : x31_7 = true
        ·subst c14
         have H1 : (if (wrap64 ((wrap64 (x5_1 + 1)) + 1)) = (a0.size : Int) then (some (([] : List Int),false)) else (if 0 ≤ (wrap64 ((wrap64 (x5_1 + 1)) + 1)) then (if (wrap64 ((wrap64 (x5_1 + 1)) + 1)) < (a0.size : Int) then (impl_readSet.j2 kj7 a0 x4_1 (wrap64 ((wrap64 (x5_1 + 1)) + 2)) (bt a0 x5_1) (bt a0 (wrap64 ((wrap64 (x5_1 + 1)) + 1)))) else (none)) else (none))) = some (r1,r2):=by rw [if_pos rfl] at H;exact H
         clear H
         have H:=H1
         clear H1
         by_cases c15 : (wrap64 ((wrap64 (x5_1 + 1)) + 1)) = (a0.size : Int)
         ·rw [if_pos c15] at H
          have c15b0 : ((wrap64 ((wrap64 (x5_1 + 1)) + 1)) == (a0.size : Int)) = true:=beq_iff_eq.mpr c15
          have c15b1 : ((wrap64 ((wrap64 (x5_1 + 1)) + 1)) != (a0.size : Int)) = false:=bne_eq_false_iff_eq.mpr c15
          clear c15
          (first|rw [c15b0]|(simp only [i64_w,i32_w];rw [c15b0])|skip)
          simp only [Option.some.injEq,Prod.mk.injEq] at H
          obtain ⟨rfl,rfl⟩:=H
          go_wp2
          repeat (go_quiet (fail);try go_wp2)
          go_ret2
          exact ⟨_,by first|rfl|(simp [errW_none,errW_some] <;> rfl)|(simp [*,errW_none,errW_some] <;> rfl),by first|exact Kd.R_nil _ _ _ _ _|exact Kd.N_nil _ _ _ _ _|exact Kd.V_nil _ _ _ _ _|exact Kd.Q_nil _ _ _ _ _|exact Kd.S_nil _ _ _ _ _,by repeat (first|(with_reducible first|exact HB.out|apply za_|apply zn_|apply zd_)|exact HB.out)⟩
         ·rw [if_neg c15] at H
          have c15b0 : ((wrap64 ((wrap64 (x5_1 + 1)) + 1)) == (a0.size : Int)) = false:=beq_eq_false_iff_ne.mpr c15
          have c15b1 : ((wrap64 ((wrap64 (x5_1 + 1)) + 1)) != (a0.size : Int)) = true:=bne_iff_ne.mpr c15
          (first|rw [c15b0]|(simp only [i64_w,i32_w];rw [c15b0])|skip)
          obtain ⟨ji16,hji16⟩ : ∃ j_ : Int,(wrap64 ((wrap64 (x5_1 + 1)) + 1)) = j_:=⟨_,rfl⟩
          replace H : (if 0 ≤ (ji16) then (if (ji16) < (a0.size : Int) then (impl_readSet.j2 kj7 a0 x4_1 (wrap64 ((wrap64 (x5_1 + 1)) + 2)) (bt a0 x5_1) (bt a0 (ji16))) else (none)) else (none)) = some (r1,r2):=by first|(rw [hji16] at H;exact H)|(simp only [hji16] at H ⊢;exact H)
          (try rw [hji16] at c15b0)
          (try rw [hji16] at c15b1)
          have hji16w : (IntKind.i64.wrap ((wrap64 (x5_1 + 1)) + 1)) = ji16:=(i64_w _).trans hji16
          by_cases c17 : 0 ≤ (ji16)
          ·rw [if_pos c17] at H
           have c17b0 : decide (0 ≤ (ji16)) = true:=decide_eq_true c17
           clear c17
           by_cases c18 : (ji16) < (a0.size : Int)
           ·rw [if_pos c18] at H
            have c18b0 : decide ((ji16) < (a0.size : Int)) = true:=decide_eq_true c18
            clear c18
            have H':=zm_ H
            clear H
            have p19 : 0 ≤ ((ji16) : Int):=zo_
            have q19 : (ji16) < (a0.size : Int):=zo_
            have hx19:=bt_at a0 (ji16)
            replace p19:=eq_true p19
            replace q19:=eq_true q19
            go_wp2
            repeat (go_quiet (fail);try go_wp2)
            go_meet
            case rel => exact ⟨_,(wrap64 ((wrap64 (x5_1 + 1)) + 2)),(bt a0 (ji16)),zV_,(by first|rfl|(exact congrArg Value.bool (isEmpty_ne _))|(exact congrArg Value.bool (isEmpty_ne' _))|(exact congrArg Value.bool (isEmpty_eq _))|(simp;done)|(simp only [← hji16] <;> (first|rfl|simp))|(simp [*];done)),(by first|exact H'|(rw [hji16];exact H')|(simp only [hji16];exact H')),⟨by have:=HK1.out;have:=HJ7.out;first|omega|exact Nat.le_refl _⟩,⟨by (with_reducible repeat (first|apply Kd.R_alloc|apply Kd.R_drewN|apply Kd.R_drew));exact HO_4.out⟩,⟨by repeat (first|(with_reducible first|exact HB.out|apply za_|apply zn_|apply zd_)|exact HB.out)⟩⟩
           ·rw [if_neg c18] at H
            exact absurd H (by simp)
          ·rw [if_neg c17] at H
           exact absurd H (by simp)
        ·replace c14:=Bool.eq_false_iff.mpr c14
         subst c14
         have H1 : (impl_readSet.j2 kj7 a0 x4_1 (wrap64 (x5_1 + 1)) (bt a0 x5_1) (bt a0 x5_1)) = some (r1,r2):=by rw [if_neg (show ¬ (false = true) by decide)] at H;exact H
         clear H
         have H:=H1
         clear H1
         have H':=zm_ H
         clear H
         go_wp2
         repeat (go_quiet (fail);try go_wp2)
         go_meet
         case rel => exact ⟨_,((wrap64 (x5_1 + 1))),((bt a0 x5_1)),zV_,zV_,H',⟨by have:=HK1.out;have:=HJ7.out;first|omega|exact Nat.le_refl _⟩,⟨by (with_reducible repeat (first|apply Kd.R_alloc|apply Kd.R_drewN|apply Kd.R_drew));exact HO_4.out⟩,⟨by repeat (first|(with_reducible first|exact HB.out|apply za_|apply zn_|apply zd_)|exact HB.out)⟩⟩
       case rest =>
        clear HC13
        try clear c1
        try clear p1
        try clear q1
        try clear hx1
        try clear p2
        try clear c3
        try clear c4
        try clear c4b0
        try clear c5
        try clear c5b0
        try clear p6
        try clear q6
        try clear hx6
        try clear p7
        try clear q7
        try clear hx7
        try clear c9
        try clear c9b0
        try clear c11
        try clear c11b0
        try clear p12
        try clear q12
        try clear hx12
        try clear c14
        try clear c15
        try clear c15b0
        try clear c15b1
        try clear c17
        try clear c17b0
        try clear c18
        try clear c18b0
        try clear p19
        try clear q19
        try clear hx19
        try clear p1
        try clear p12
        try clear p19
        try clear p2
        try clear p6
        try clear p7
        try clear q1
        try clear q12
        try clear q19
        try clear q6
        try clear q7
        obtain ⟨kq,x5_12,x7_12,rfl,rfl,HA,HJ12,HO_4,HB⟩:=hcut
        cases kq with
        |zero => exact absurd HA.out (by simp [impl_readSet.j2])
        |succ kj12 =>
         have H:=HA.out
         clear HA
         simp only [impl_readSet.j2] at H
         have HC20:=zm_ H
         clear H
         go_upto_region 11 with (fail)
         repeat (go_quiet (fail);go_upto_region 11 with (fail))
         go_cut [62] (fun v62 wc => ∃ (kq : Nat) (x62_19 : Bool),v62 = .bool x62_19 ∧ Aside0 (impl_readSet.j3 kq a0 x4_1 x5_12 (bt a0 x5_1) x7_12 x62_19 = some (r1,r2)) ∧ Aside0 (kq ≤ kj12) ∧ Aside0 (Kd.R (Kd.int .u8) 5 wc w.heap.size (fun _ => True) u4 x4_1) ∧ Aside0 (Below w.heap.size w wc))
         case first =>
          have H:=HC20.out
          clear HC20
          replace H:=Option.bind_eq_some_iff.mp H
          obtain ⟨t113,A210,H⟩:=H
          replace H : (if t113 = true then ((impl_isSetByte.f x7_12).bind fun t114 => (if t114 = true then ((impl_isSmall.f (bt a0 x5_1)).bind fun t115 => ((impl_isSmall.f x7_12).bind fun t116 => (if (t115 != t116) = true then (impl_readSet.j3 kj12 a0 x4_1 x5_12 (bt a0 x5_1) x7_12 true) else (impl_readSet.j3 kj12 a0 x4_1 x5_12 (bt a0 x5_1) x7_12 (decide (x7_12 < (bt a0 x5_1))))))) else (impl_readSet.j3 kj12 a0 x4_1 x5_12 (bt a0 x5_1) x7_12 true))) else (impl_readSet.j3 kj12 a0 x4_1 x5_12 (bt a0 x5_1) x7_12 true)) = some (r1,r2):=H
          have A21:=zm_ A210
          clear A210
          by_cases c22 : t113 = true
          ·subst c22
           have H1 : ((impl_isSetByte.f x7_12).bind fun t114 => (if t114 = true then ((impl_isSmall.f (bt a0 x5_1)).bind fun t115 => ((impl_isSmall.f x7_12).bind fun t116 => (if (t115 != t116) = true then (impl_readSet.j3 kj12 a0 x4_1 x5_12 (bt a0 x5_1) x7_12 true) else (impl_readSet.j3 kj12 a0 x4_1 x5_12 (bt a0 x5_1) x7_12 (decide (x7_12 < (bt a0 x5_1))))))) else (impl_readSet.j3 kj12 a0 x4_1 x5_12 (bt a0 x5_1) x7_12 true))) = some (r1,r2):=by rw [if_pos rfl] at H;exact H
           clear H
           have H:=H1
           clear H1
           replace H:=Option.bind_eq_some_iff.mp H
           obtain ⟨t114,A230,H⟩:=H
           replace H : (if t114 = true then ((impl_isSmall.f (bt a0 x5_1)).bind fun t115 => ((impl_isSmall.f x7_12).bind fun t116 => (if (t115 != t116) = true then (impl_readSet.j3 kj12 a0 x4_1 x5_12 (bt a0 x5_1) x7_12 true) else (impl_readSet.j3 kj12 a0 x4_1 x5_12 (bt a0 x5_1) x7_12 (decide (x7_12 < (bt a0 x5_1))))))) else (impl_readSet.j3 kj12 a0 x4_1 x5_12 (bt a0 x5_1) x7_12 true)) = some (r1,r2):=H
           have A23:=zm_ A230
           clear A230
           by_cases c24 : t114 = true
           ·subst c24
            have H1 : ((impl_isSmall.f (bt a0 x5_1)).bind fun t115 => ((impl_isSmall.f x7_12).bind fun t116 => (if (t115 != t116) = true then (impl_readSet.j3 kj12 a0 x4_1 x5_12 (bt a0 x5_1) x7_12 true) else (impl_readSet.j3 kj12 a0 x4_1 x5_12 (bt a0 x5_1) x7_12 (decide (x7_12 < (bt a0 x5_1))))))) = some (r1,r2):=by rw [if_pos rfl] at H;exact H
            clear H
            have H:=H1
            clear H1
            replace H:=Option.bind_eq_some_iff.mp H
            obtain ⟨t115,A250,H⟩:=H
            replace H : ((impl_isSmall.f x7_12).bind fun t116 => (if (t115 != t116) = true then (impl_readSet.j3 kj12 a0 x4_1 x5_12 (bt a0 x5_1) x7_12 true) else (impl_readSet.j3 kj12 a0 x4_1 x5_12 (bt a0 x5_1) x7_12 (decide (x7_12 < (bt a0 x5_1)))))) = some (r1,r2):=H
            have A25:=zm_ A250
            clear A250
            replace H:=Option.bind_eq_some_iff.mp H
            obtain ⟨t116,A260,H⟩:=H
            replace H : (if (t115 != t116) = true then (impl_readSet.j3 kj12 a0 x4_1 x5_12 (bt a0 x5_1) x7_12 true) else (impl_readSet.j3 kj12 a0 x4_1 x5_12 (bt a0 x5_1) x7_12 (decide (x7_12 < (bt a0 x5_1))))) = some (r1,r2):=H
            have A26:=zm_ A260
            clear A260
            by_cases c27 : (t115 != t116) = true
            ·rw [if_pos c27] at H
             have c27b0 : (t115 != t116) = true:=c27
             (try (have c27b1 : decide (t115 = t116) = false:=by simpa using c27))
             (try (have c27b2 : (t115 == t116) = false:=by simpa using c27))
             (try (have c27b3 : ¬ (t115 = t116):=by simpa using c27))
             clear c27
             (first|rw [c27b0]|(simp only [i64_w,i32_w];rw [c27b0])|skip)
             have H':=zm_ H
             clear H
             go_wp2_with (first|(go_at_call 38;(with_reducible refine (impl_isSetByte.calls (bt a0 x5_1) true _ A21.out).mono ?_);rintro e w' ⟨rfl,⟨nd,rfl⟩⟩;(try first|exact ⟨rfl,_,zw_ _ _ _⟩|exact ⟨rfl,_,Eq.trans (zw_ _ _ _) (congrArg (World.drewN _) (Nat.add_assoc _ _ _))⟩))|(go_at_call 38;(with_reducible refine (impl_isSetByte.calls x7_12 true _ A23.out).mono ?_);rintro e w' ⟨rfl,⟨nd,rfl⟩⟩;(try first|exact ⟨rfl,_,zw_ _ _ _⟩|exact ⟨rfl,_,Eq.trans (zw_ _ _ _) (congrArg (World.drewN _) (Nat.add_assoc _ _ _))⟩))|(go_at_call 46;(with_reducible refine (impl_isSmall.calls (bt a0 x5_1) t115 _ A25.out).mono ?_);rintro e w' ⟨rfl,⟨nd,rfl⟩⟩;(try first|exact ⟨rfl,_,zw_ _ _ _⟩|exact ⟨rfl,_,Eq.trans (zw_ _ _ _) (congrArg (World.drewN _) (Nat.add_assoc _ _ _))⟩))|(go_at_call 46;(with_reducible refine (impl_isSmall.calls x7_12 t116 _ A26.out).mono ?_);rintro e w' ⟨rfl,⟨nd,rfl⟩⟩;(try first|exact ⟨rfl,_,zw_ _ _ _⟩|exact ⟨rfl,_,Eq.trans (zw_ _ _ _) (congrArg (World.drewN _) (Nat.add_assoc _ _ _))⟩)))
             repeat (go_quiet (first|(go_at_call 38;(with_reducible refine (impl_isSetByte.calls (bt a0 x5_1) true _ A21.out).mono ?_);rintro e w' ⟨rfl,⟨nd,rfl⟩⟩;(try first|exact ⟨rfl,_,zw_ _ _ _⟩|exact ⟨rfl,_,Eq.trans (zw_ _ _ _) (congrArg (World.drewN _) (Nat.add_assoc _ _ _))⟩))|(go_at_call 38;(with_reducible refine (impl_isSetByte.calls x7_12 true _ A23.out).mono ?_);rintro e w' ⟨rfl,⟨nd,rfl⟩⟩;(try first|exact ⟨rfl,_,zw_ _ _ _⟩|exact ⟨rfl,_,Eq.trans (zw_ _ _ _) (congrArg (World.drewN _) (Nat.add_assoc _ _ _))⟩))|(go_at_call 46;(with_reducible refine (impl_isSmall.calls (bt a0 x5_1) t115 _ A25.out).mono ?_);rintro e w' ⟨rfl,⟨nd,rfl⟩⟩;(try first|exact ⟨rfl,_,zw_ _ _ _⟩|exact ⟨rfl,_,Eq.trans (zw_ _ _ _) (congrArg (World.drewN _) (Nat.add_assoc _ _ _))⟩))|(go_at_call 46;(with_reducible refine (impl_isSmall.calls x7_12 t116 _ A26.out).mono ?_);rintro e w' ⟨rfl,⟨nd,rfl⟩⟩;(try first|exact ⟨rfl,_,zw_ _ _ _⟩|exact ⟨rfl,_,Eq.trans (zw_ _ _ _) (congrArg (World.drewN _) (Nat.add_assoc _ _ _))⟩)));try go_wp2_with (first|(go_at_call 38;(with_reducible refine (impl_isSetByte.calls (bt a0 x5_1) true _ A21.out).mono ?_);rintro e w' ⟨rfl,⟨nd,rfl⟩⟩;(try first|exact ⟨rfl,_,zw_ _ _ _⟩|exact ⟨rfl,_,Eq.trans (zw_ _ _ _) (congrArg (World.drewN _) (Nat.add_assoc _ _ _))⟩))|(go_at_call 38;(with_reducible refine (impl_isSetByte.calls x7_12 true _ A23.out).mono ?_);rintro e w' ⟨rfl,⟨nd,rfl⟩⟩;(try first|exact ⟨rfl,_,zw_ _ _ _⟩|exact ⟨rfl,_,Eq.trans (zw_ _ _ _) (congrArg (World.drewN _) (Nat.add_assoc _ _ _))⟩))|(go_at_call 46;(with_reducible refine (impl_isSmall.calls (bt a0 x5_1) t115 _ A25.out).mono ?_);rintro e w' ⟨rfl,⟨nd,rfl⟩⟩;(try first|exact ⟨rfl,_,zw_ _ _ _⟩|exact ⟨rfl,_,Eq.trans (zw_ _ _ _) (congrArg (World.drewN _) (Nat.add_assoc _ _ _))⟩))|(go_at_call 46;(with_reducible refine (impl_isSmall.calls x7_12 t116 _ A26.out).mono ?_);rintro e w' ⟨rfl,⟨nd,rfl⟩⟩;(try first|exact ⟨rfl,_,zw_ _ _ _⟩|exact ⟨rfl,_,Eq.trans (zw_ _ _ _) (congrArg (World.drewN _) (Nat.add_assoc _ _ _))⟩))))
             go_meet
             case rel => exact ⟨_,(true),zV_,H',⟨by have:=HK1.out;have:=HJ7.out;have:=HJ12.out;first|omega|exact Nat.le_refl _⟩,⟨by (with_reducible repeat (first|apply Kd.R_alloc|apply Kd.R_drewN|apply Kd.R_drew));exact HO_4.out⟩,⟨by repeat (first|(with_reducible first|exact HB.out|apply za_|apply zn_|apply zd_)|exact HB.out)⟩⟩
            ·rw [if_neg c27] at H
             have c27b0 : (t115 != t116) = false:=by simpa using c27
             (try (have c27b1 : decide (t115 = t116) = true:=by simpa using c27))
             (try (have c27b2 : (t115 == t116) = true:=by simpa using c27))
             clear c27
             (first|rw [c27b0]|(simp only [i64_w,i32_w];rw [c27b0])|skip)
             have H':=zm_ H
             clear H
             go_wp2_with (first|(go_at_call 38;(with_reducible refine (impl_isSetByte.calls (bt a0 x5_1) true _ A21.out).mono ?_);rintro e w' ⟨rfl,⟨nd,rfl⟩⟩;(try first|exact ⟨rfl,_,zw_ _ _ _⟩|exact ⟨rfl,_,Eq.trans (zw_ _ _ _) (congrArg (World.drewN _) (Nat.add_assoc _ _ _))⟩))|(go_at_call 38;(with_reducible refine (impl_isSetByte.calls x7_12 true _ A23.out).mono ?_);rintro e w' ⟨rfl,⟨nd,rfl⟩⟩;(try first|exact ⟨rfl,_,zw_ _ _ _⟩|exact ⟨rfl,_,Eq.trans (zw_ _ _ _) (congrArg (World.drewN _) (Nat.add_assoc _ _ _))⟩))|(go_at_call 46;(with_reducible refine (impl_isSmall.calls (bt a0 x5_1) t115 _ A25.out).mono ?_);rintro e w' ⟨rfl,⟨nd,rfl⟩⟩;(try first|exact ⟨rfl,_,zw_ _ _ _⟩|exact ⟨rfl,_,Eq.trans (zw_ _ _ _) (congrArg (World.drewN _) (Nat.add_assoc _ _ _))⟩))|(go_at_call 46;(with_reducible refine (impl_isSmall.calls x7_12 t116 _ A26.out).mono ?_);rintro e w' ⟨rfl,⟨nd,rfl⟩⟩;(try first|exact ⟨rfl,_,zw_ _ _ _⟩|exact ⟨rfl,_,Eq.trans (zw_ _ _ _) (congrArg (World.drewN _) (Nat.add_assoc _ _ _))⟩)))
             repeat (go_quiet (first|(go_at_call 38;(with_reducible refine (impl_isSetByte.calls (bt a0 x5_1) true _ A21.out).mono ?_);rintro e w' ⟨rfl,⟨nd,rfl⟩⟩;(try first|exact ⟨rfl,_,zw_ _ _ _⟩|exact ⟨rfl,_,Eq.trans (zw_ _ _ _) (congrArg (World.drewN _) (Nat.add_assoc _ _ _))⟩))|(go_at_call 38;(with_reducible refine (impl_isSetByte.calls x7_12 true _ A23.out).mono ?_);rintro e w' ⟨rfl,⟨nd,rfl⟩⟩;(try first|exact ⟨rfl,_,zw_ _ _ _⟩|exact ⟨rfl,_,Eq.trans (zw_ _ _ _) (congrArg (World.drewN _) (Nat.add_assoc _ _ _))⟩))|(go_at_call 46;(with_reducible refine (impl_isSmall.calls (bt a0 x5_1) t115 _ A25.out).mono ?_);rintro e w' ⟨rfl,⟨nd,rfl⟩⟩;(try first|exact ⟨rfl,_,zw_ _ _ _⟩|exact ⟨rfl,_,Eq.trans (zw_ _ _ _) (congrArg (World.drewN _) (Nat.add_assoc _ _ _))⟩))|(go_at_call 46;(with_reducible refine (impl_isSmall.calls x7_12 t116 _ A26.out).mono ?_);rintro e w' ⟨rfl,⟨nd,rfl⟩⟩;(try first|exact ⟨rfl,_,zw_ _ _ _⟩|exact ⟨rfl,_,Eq.trans (zw_ _ _ _) (congrArg (World.drewN _) (Nat.add_assoc _ _ _))⟩)));try go_wp2_with (first|(go_at_call 38;(with_reducible refine (impl_isSetByte.calls (bt a0 x5_1) true _ A21.out).mono ?_);rintro e w' ⟨rfl,⟨nd,rfl⟩⟩;(try first|exact ⟨rfl,_,zw_ _ _ _⟩|exact ⟨rfl,_,Eq.trans (zw_ _ _ _) (congrArg (World.drewN _) (Nat.add_assoc _ _ _))⟩))|(go_at_call 38;(with_reducible refine (impl_isSetByte.calls x7_12 true _ A23.out).mono ?_);rintro e w' ⟨rfl,⟨nd,rfl⟩⟩;(try first|exact ⟨rfl,_,zw_ _ _ _⟩|exact ⟨rfl,_,Eq.trans (zw_ _ _ _) (congrArg (World.drewN _) (Nat.add_assoc _ _ _))⟩))|(go_at_call 46;(with_reducible refine (impl_isSmall.calls (bt a0 x5_1) t115 _ A25.out).mono ?_);rintro e w' ⟨rfl,⟨nd,rfl⟩⟩;(try first|exact ⟨rfl,_,zw_ _ _ _⟩|exact ⟨rfl,_,Eq.trans (zw_ _ _ _) (congrArg (World.drewN _) (Nat.add_assoc _ _ _))⟩))|(go_at_call 46;(with_reducible refine (impl_isSmall.calls x7_12 t116 _ A26.out).mono ?_);rintro e w' ⟨rfl,⟨nd,rfl⟩⟩;(try first|exact ⟨rfl,_,zw_ _ _ _⟩|exact ⟨rfl,_,Eq.trans (zw_ _ _ _) (congrArg (World.drewN _) (Nat.add_assoc _ _ _))⟩))))
             go_meet
             case rel => exact ⟨_,(decide (x7_12 < (bt a0 x5_1))),zV_,H',⟨by have:=HK1.out;have:=HJ7.out;have:=HJ12.out;first|omega|exact Nat.le_refl _⟩,⟨by (with_reducible repeat (first|apply Kd.R_alloc|apply Kd.R_drewN|apply Kd.R_drew));exact HO_4.out⟩,⟨by repeat (first|(with_reducible first|exact HB.out|apply za_|apply zn_|apply zd_)|exact HB.out)⟩⟩
           ·replace c24:=Bool.eq_false_iff.mpr c24
            subst c24
            have H1 : (impl_readSet.j3 kj12 a0 x4_1 x5_12 (bt a0 x5_1) x7_12 true) = some (r1,r2):=by rw [if_neg (show ¬ (false = true) by decide)] at H;exact H
            clear H
            have H:=H1
            clear H1
            have H':=zm_ H
            clear H
            go_wp2_with (first|(go_at_call 38;(with_reducible refine (impl_isSetByte.calls (bt a0 x5_1) true _ A21.out).mono ?_);rintro e w' ⟨rfl,⟨nd,rfl⟩⟩;(try first|exact ⟨rfl,_,zw_ _ _ _⟩|exact ⟨rfl,_,Eq.trans (zw_ _ _ _) (congrArg (World.drewN _) (Nat.add_assoc _ _ _))⟩))|(go_at_call 38;(with_reducible refine (impl_isSetByte.calls x7_12 false _ A23.out).mono ?_);rintro e w' ⟨rfl,⟨nd,rfl⟩⟩;(try first|exact ⟨rfl,_,zw_ _ _ _⟩|exact ⟨rfl,_,Eq.trans (zw_ _ _ _) (congrArg (World.drewN _) (Nat.add_assoc _ _ _))⟩)))
            repeat (go_quiet (first|(go_at_call 38;(with_reducible refine (impl_isSetByte.calls (bt a0 x5_1) true _ A21.out).mono ?_);rintro e w' ⟨rfl,⟨nd,rfl⟩⟩;(try first|exact ⟨rfl,_,zw_ _ _ _⟩|exact ⟨rfl,_,Eq.trans (zw_ _ _ _) (congrArg (World.drewN _) (Nat.add_assoc _ _ _))⟩))|(go_at_call 38;(with_reducible refine (impl_isSetByte.calls x7_12 false _ A23.out).mono ?_);rintro e w' ⟨rfl,⟨nd,rfl⟩⟩;(try first|exact ⟨rfl,_,zw_ _ _ _⟩|exact ⟨rfl,_,Eq.trans (zw_ _ _ _) (congrArg (World.drewN _) (Nat.add_assoc _ _ _))⟩)));try go_wp2_with (first|(go_at_call 38;(with_reducible refine (impl_isSetByte.calls (bt a0 x5_1) true _ A21.out).mono ?_);rintro e w' ⟨rfl,⟨nd,rfl⟩⟩;(try first|exact ⟨rfl,_,zw_ _ _ _⟩|exact ⟨rfl,_,Eq.trans (zw_ _ _ _) (congrArg (World.drewN _) (Nat.add_assoc _ _ _))⟩))|(go_at_call 38;(with_reducible refine (impl_isSetByte.calls x7_12 false _ A23.out).mono ?_);rintro e w' ⟨rfl,⟨nd,rfl⟩⟩;(try first|exact ⟨rfl,_,zw_ _ _ _⟩|exact ⟨rfl,_,Eq.trans (zw_ _ _ _) (congrArg (World.drewN _) (Nat.add_assoc _ _ _))⟩))))
            go_meet
            case rel => exact ⟨_,(true),zV_,H',⟨by have:=HK1.out;have:=HJ7.out;have:=HJ12.out;first|omega|exact Nat.le_refl _⟩,⟨by (with_reducible repeat (first|apply Kd.R_alloc|apply Kd.R_drewN|apply Kd.R_drew));exact HO_4.out⟩,⟨by repeat (first|(with_reducible first|exact HB.out|apply za_|apply zn_|apply zd_)|exact HB.out)⟩⟩
          ·replace c22:=Bool.eq_false_iff.mpr c22
           subst c22
           have H1 : (impl_readSet.j3 kj12 a0 x4_1 x5_12 (bt a0 x5_1) x7_12 true) = some (r1,r2):=by rw [if_neg (show ¬ (false = true) by decide)] at H;exact H
           clear H
           have H:=H1
           clear H1
           have H':=zm_ H
           clear H
           go_wp2_with (first|(go_at_call 38;(with_reducible refine (impl_isSetByte.calls (bt a0 x5_1) false _ A21.out).mono ?_);rintro e w' ⟨rfl,⟨nd,rfl⟩⟩;(try first|exact ⟨rfl,_,zw_ _ _ _⟩|exact ⟨rfl,_,Eq.trans (zw_ _ _ _) (congrArg (World.drewN _) (Nat.add_assoc _ _ _))⟩)))
           repeat (go_quiet (first|(go_at_call 38;(with_reducible refine (impl_isSetByte.calls (bt a0 x5_1) false _ A21.out).mono ?_);rintro e w' ⟨rfl,⟨nd,rfl⟩⟩;(try first|exact ⟨rfl,_,zw_ _ _ _⟩|exact ⟨rfl,_,Eq.trans (zw_ _ _ _) (congrArg (World.drewN _) (Nat.add_assoc _ _ _))⟩)));try go_wp2_with (first|(go_at_call 38;(with_reducible refine (impl_isSetByte.calls (bt a0 x5_1) false _ A21.out).mono ?_);rintro e w' ⟨rfl,⟨nd,rfl⟩⟩;(try first|exact ⟨rfl,_,zw_ _ _ _⟩|exact ⟨rfl,_,Eq.trans (zw_ _ _ _) (congrArg (World.drewN _) (Nat.add_assoc _ _ _))⟩))))
           go_meet
           case rel => exact ⟨_,(true),zV_,H',⟨by have:=HK1.out;have:=HJ7.out;have:=HJ12.out;first|omega|exact Nat.le_refl _⟩,⟨by (with_reducible repeat (first|apply Kd.R_alloc|apply Kd.R_drewN|apply Kd.R_drew));exact HO_4.out⟩,⟨by repeat (first|(with_reducible first|exact HB.out|apply za_|apply zn_|apply zd_)|exact HB.out)⟩⟩
         case rest =>
          clear HC20
          try clear c1
          try clear p1
          try clear q1
          try clear hx1
          try clear c2
          try clear p2
          try clear c3
          try clear c4
          try clear c4b0
          try clear c5
          try clear c5b0
          try clear p6
          try clear q6
          try clear hx6
          try clear p7
          try clear q7
          try clear hx7
          try clear c9
          try clear c9b0
          try clear c11
          try clear c11b0
          try clear p12
          try clear q12
          try clear hx12
          try clear c14
          try clear c15
          try clear c15b0
          try clear c15b1
          try clear c17
          try clear c17b0
          try clear c18
          try clear c18b0
          try clear p19
          try clear q19
          try clear hx19
          try clear c22
          try clear c24
          try clear c27
          try clear c27b0
          try clear c27b1
          try clear c27b2
          try clear p1
          try clear p12
          try clear p19
          try clear p2
          try clear p6
          try clear p7
          try clear q1
          try clear q12
          try clear q19
          try clear q6
          try clear q7
          obtain ⟨kq,x62_19,rfl,HA,HJ19,HO_4,HB⟩:=hcut
          cases kq with
          |zero => exact absurd HA.out (by simp [impl_readSet.j3])
          |succ kj19 =>
           have H:=HA.out
           clear HA
           simp only [impl_readSet.j3] at H
           by_cases c28 : x62_19 = true
           ·subst c28
            have H1 : (some (([] : List Int),false)) = some (r1,r2):=by rw [if_pos rfl] at H;exact H
            clear H
            have H:=H1
            clear H1
            simp only [Option.some.injEq,Prod.mk.injEq] at H
            obtain ⟨rfl,rfl⟩:=H
            go_wp2
            repeat (go_quiet (fail);try go_wp2)
            go_ret2
            exact ⟨_,by first|rfl|(simp [errW_none,errW_some] <;> rfl)|(simp [*,errW_none,errW_some] <;> rfl),by first|exact Kd.R_nil _ _ _ _ _|exact Kd.N_nil _ _ _ _ _|exact Kd.V_nil _ _ _ _ _|exact Kd.Q_nil _ _ _ _ _|exact Kd.S_nil _ _ _ _ _,by repeat (first|(with_reducible first|exact HB.out|apply za_|apply zn_|apply zd_)|exact HB.out)⟩
           ·replace c28:=Bool.eq_false_iff.mpr c28
            subst c28
            have H1 : (impl_readSet.l1 kj19 a0 x4_1 x5_12 x7_12 (wrap64 ((bt a0 x5_1)))) = some (r1,r2):=by rw [if_neg (show ¬ (false = true) by decide)] at H;exact H
            clear H
            have H:=H1
            clear H1
            have H':=zm_ H
            clear H
            go_wp2
            repeat (go_quiet (fail);try go_wp2)
            go_loopg [4,8] kj19 (fun kq v4 v8 w' => ∃ (x4_5 : List Int) (x8_5 : Int),v8 = .int .i64 x8_5 ∧ Aside0 (impl_readSet.l1 kq a0 x4_5 x5_12 x7_12 x8_5 = some (r1,r2)) ∧ Aside0 (kq ≤ kj19) ∧ Aside0 (Kd.R (Kd.int .u8) 5 w' w.heap.size (fun _ => True) v4 x4_5) ∧ Aside0 (Below w.heap.size w w'))
            case atStart => exact ⟨(x4_1),(wrap64 ((bt a0 x5_1))),zV_,H',⟨Nat.le_refl _⟩,⟨by (with_reducible repeat (first|apply Kd.R_alloc|apply Kd.R_drewN|apply Kd.R_drew));exact HO_4.out⟩,⟨by repeat (first|(with_reducible first|exact HB.out|apply za_|apply zn_|apply zd_)|exact HB.out)⟩⟩
            case round =>
             clear H'
             try clear c1
             try clear p1
             try clear q1
             try clear hx1
             try clear c2
             try clear p2
             try clear c3
             try clear c4
             try clear c4b0
             try clear c5
             try clear c5b0
             try clear p6
             try clear q6
             try clear hx6
             try clear p7
             try clear q7
             try clear hx7
             try clear c9
             try clear c9b0
             try clear c11
             try clear c11b0
             try clear p12
             try clear q12
             try clear hx12
             try clear c14
             try clear c15
             try clear c15b0
             try clear c15b1
             try clear c17
             try clear c17b0
             try clear c18
             try clear c18b0
             try clear p19
             try clear q19
             try clear hx19
             try clear c22
             try clear c24
             try clear c27
             try clear c27b0
             try clear c27b1
             try clear c27b2
             try clear c28
             try clear p1
             try clear p12
             try clear p19
             try clear p2
             try clear p6
             try clear p7
             try clear q1
             try clear q12
             try clear q19
             try clear q6
             try clear q7
             obtain ⟨x4_5,x8_5,rfl,HA,HK5,HO_4,HB⟩:=hrel
             cases gk with
             |zero => exact absurd HA.out (by simp [impl_readSet.l1])
             |succ k5 =>
              have H:=HA.out
              clear HA
              simp only [impl_readSet.l1] at H
              by_cases c29 : x8_5 ≤ (wrap64 (x7_12))
              ·rw [if_pos c29] at H
               have c29b0 : decide (x8_5 ≤ (wrap64 (x7_12))) = true:=decide_eq_true c29
               clear c29
               by_cases c30 : x4_5.length < 140737488355328
               ·rw [if_pos c30] at H
                have LMc30:=zm_ c30
                clear c30
                obtain ⟨y117,hy117⟩ : ∃ y_ : List Int,y_ = (x4_5 ++ [(x8_5) % 256]):=⟨_,rfl⟩
                replace H : (impl_readSet.l1 k5 a0 y117 x5_12 x7_12 (wrap64 (x8_5 + 1))) = some (r1,r2):=by first|(rw [hy117];with_reducible exact H)|(have H2_:=(Option.bind_some _ _).symm.trans H;rw [hy117];with_reducible exact H2_)|(have H2_:=(Option.bind_some _ _).symm.trans H;with_reducible exact H2_)|with_reducible exact H|(rw [hy117];exact H)|exact H
                have Ny117:=zm_ hy117
                clear hy117
                have H':=zm_ H
                clear H
                go_wp2_with (first|((with_reducible refine gate_builtin (b:=.append) (xs:=#[.tmp 71,.tmp 74]) rfl ?_);at_builtin;refine Kd.R_append (Kd.int .u8) (w0:=w) w.heap.size rfl (.tmp 71) (.tmp 74) 29 5 (.int .u8 0) 1 rfl Try.underlying29 info5 rfl (by decide) (by omega) u4 x4_5 ((x8_5) % 256) [.int .u8 ((x8_5) % 256)] (fun _ => True) (fun _ => False) rfl rfl ?aP (fun _ hk => hk.elim) ?aF ?aO ?aB ?aS ?aL ?_;(case aP => exact rfl);(case aB => exact zB_);(case aF => exact (fun _ _ => trivial));(case aO => exact (by (with_reducible repeat (first|apply Kd.R_alloc|apply Kd.R_drewN|apply Kd.R_drew));exact HO_4.out));(case aS => exact (below_size zB_));(case aL => have:=LMc30.out;omega);intro v118 w31 ho hb hg hat;rw [← Ny117.out] at ho;have n0_:=zm_ (hb);have n1_:=zm_ (ho);clear HB;clear HO_4;have HB:=n0_;have HO119:=n1_;clear n0_ n1_;clear ho hb hg hat))
                repeat (go_quiet (first|((with_reducible refine gate_builtin (b:=.append) (xs:=#[.tmp 71,.tmp 74]) rfl ?_);at_builtin;refine Kd.R_append (Kd.int .u8) (w0:=w) w.heap.size rfl (.tmp 71) (.tmp 74) 29 5 (.int .u8 0) 1 rfl Try.underlying29 info5 rfl (by decide) (by omega) u4 x4_5 ((x8_5) % 256) [.int .u8 ((x8_5) % 256)] (fun _ => True) (fun _ => False) rfl rfl ?aP (fun _ hk => hk.elim) ?aF ?aO ?aB ?aS ?aL ?_;(case aP => exact rfl);(case aB => exact zB_);(case aF => exact (fun _ _ => trivial));(case aO => exact (by (with_reducible repeat (first|apply Kd.R_alloc|apply Kd.R_drewN|apply Kd.R_drew));exact HO_4.out));(case aS => exact (below_size zB_));(case aL => have:=LMc30.out;omega);intro v118 w31 ho hb hg hat;rw [← Ny117.out] at ho;have n0_:=zm_ (hb);have n1_:=zm_ (ho);clear HB;clear HO_4;have HB:=n0_;have HO119:=n1_;clear n0_ n1_;clear ho hb hg hat));try go_wp2_with (first|((with_reducible refine gate_builtin (b:=.append) (xs:=#[.tmp 71,.tmp 74]) rfl ?_);at_builtin;refine Kd.R_append (Kd.int .u8) (w0:=w) w.heap.size rfl (.tmp 71) (.tmp 74) 29 5 (.int .u8 0) 1 rfl Try.underlying29 info5 rfl (by decide) (by omega) u4 x4_5 ((x8_5) % 256) [.int .u8 ((x8_5) % 256)] (fun _ => True) (fun _ => False) rfl rfl ?aP (fun _ hk => hk.elim) ?aF ?aO ?aB ?aS ?aL ?_;(case aP => exact rfl);(case aB => exact zB_);(case aF => exact (fun _ _ => trivial));(case aO => exact (by (with_reducible repeat (first|apply Kd.R_alloc|apply Kd.R_drewN|apply Kd.R_drew));exact HO_4.out));(case aS => exact (below_size zB_));(case aL => have:=LMc30.out;omega);intro v118 w31 ho hb hg hat;rw [← Ny117.out] at ho;have n0_:=zm_ (hb);have n1_:=zm_ (ho);clear HB;clear HO_4;have HB:=n0_;have HO119:=n1_;clear n0_ n1_;clear ho hb hg hat)))
                go_roundg k5
                case measure => have:=HK1.out;have:=HJ7.out;have:=HJ12.out;have:=HJ19.out;have:=HK5.out;omega
                case rel => exact ⟨(y117),(wrap64 (x8_5 + 1)),zV_,H',⟨by have:=HK1.out;have:=HJ7.out;have:=HJ12.out;have:=HJ19.out;have:=HK5.out;omega⟩,⟨by (with_reducible repeat (first|apply Kd.R_alloc|apply Kd.R_drewN|apply Kd.R_drew));exact HO119.out⟩,⟨by repeat (first|(with_reducible first|exact HB.out|apply za_|apply zn_|apply zd_)|exact HB.out)⟩⟩
               ·rw [if_neg c30] at H
                exact absurd H (by simp)
              ·rw [if_neg c29] at H
               have c29b0 : decide (x8_5 ≤ (wrap64 (x7_12))) = false:=decide_eq_false c29
               clear c29
               have H':=zm_ H
               clear H
               go_wp2
               repeat (go_quiet (fail);try go_wp2)
               go_roundg k5
               case measure => have:=HK1.out;have:=HJ7.out;have:=HJ12.out;have:=HJ19.out;have:=HK5.out;omega
               case rel => exact ⟨(x4_5),(x5_12),zV_,H',⟨by have:=HK1.out;have:=HJ7.out;have:=HJ12.out;have:=HJ19.out;have:=HK5.out;omega⟩,⟨by (with_reducible repeat (first|apply Kd.R_alloc|apply Kd.R_drewN|apply Kd.R_drew));exact HO_4.out⟩,⟨by repeat (first|(with_reducible first|exact HB.out|apply za_|apply zn_|apply zd_)|exact HB.out)⟩⟩
    ·rw [if_neg c5] at H
     exact absurd H (by simp)
   ·rw [if_neg c4] at H
    have c4b0 : decide (x5_1 < (a0.size : Int)) = false:=decide_eq_false c4
    clear c4
    replace H:=Option.bind_eq_some_iff.mp H
    obtain ⟨t108,A320,H⟩:=H
    replace H : ((slices_Compact_byte_byte.f t108).bind fun t109 => ((impl_within.f (a0.size : Int) 1 12).bind fun t112 => (some (t109,t112)))) = some (r1,r2):=H
    have A32:=zm_ A320
    clear A320
    replace H:=Option.bind_eq_some_iff.mp H
    obtain ⟨t109,A330,H⟩:=H
    replace H : ((impl_within.f (a0.size : Int) 1 12).bind fun t112 => (some (t109,t112))) = some (r1,r2):=H
    have A33:=zm_ A330
    clear A330
    replace H:=Option.bind_eq_some_iff.mp H
    obtain ⟨t112,A340,H⟩:=H
    replace H : (some (t109,t112)) = some (r1,r2):=H
    have A34:=zm_ A340
    clear A340
    simp only [Option.some.injEq,Prod.mk.injEq] at H
    obtain ⟨rfl,rfl⟩:=H
    obtain ⟨Ao35,co35,eo35⟩:=Kd.R_slice HO_4.out
    subst eo35
    have tk_ : True:=trivial
    repeat ((first|go_quiet (first|(go_at_call 36;(with_reducible refine (slices_Sort_byte_byte.calls (fun k_ => some k_ = (.slice Ao35 x4_1.length co35 : Value).ownBlock) (.slice Ao35 x4_1.length co35) x4_1 t108 w _ ?side1 ?side2 A32.out).mono ?_);(case side1 => repeat (first|(with_reducible first|exact HB.out|apply za_|apply zn_|apply zd_)|exact HB.out));(case side2 => exact Kd.R_tight rfl HO_4.out);rintro e w36 ⟨rfl,hy0,hb,hkp⟩;have n0_:=zm_ (Kd.R_reok rfl hy0 (fun k_ e_ => HO_4.out.1 k_ e_));have n1_:=zm_ (hb);clear HO_4;clear HB;have HO_4:=n0_;have HB:=n1_;clear n0_ n1_;(try clear hb);(try clear hkp);(try clear hy0))|(go_at_call 37;(with_reducible refine (slices_Compact_byte_byte.calls (fun k_ => some k_ = (.slice Ao35 x4_1.length co35 : Value).ownBlock) (.slice Ao35 x4_1.length co35) t108 t109 w _ ?side1 ?side2 A33.out).mono ?_);(case side1 => repeat (first|(with_reducible first|exact HB.out|apply za_|apply zn_|apply zd_)|exact HB.out));(case side2 => exact Kd.R_tight rfl HO_4.out);rintro e w37 ⟨v110,rfl,ho0,hb,hkp⟩;have n0_:=zm_ (Kd.R_mono (ok':=fun k_ => True) ho0 (fun k_ hk_ => trivial));have n1_:=zm_ (hb);clear HB;clear HO_4;have HO111:=n0_;have HB:=n1_;clear n0_ n1_;(try clear hb);(try clear hkp);(try clear ho0))|(go_at_call 47;(with_reducible refine (impl_within.calls (a0.size : Int) 1 12 t112 _ A34.out).mono ?_);rintro e w' ⟨rfl,⟨nd,rfl⟩⟩;(try first|exact ⟨rfl,_,zw_ _ _ _⟩|exact ⟨rfl,_,Eq.trans (zw_ _ _ _) (congrArg (World.drewN _) (Nat.add_assoc _ _ _))⟩)))|clear tk_);try go_wp2_with (first|(go_at_call 36;(with_reducible refine (slices_Sort_byte_byte.calls (fun k_ => some k_ = (.slice Ao35 x4_1.length co35 : Value).ownBlock) (.slice Ao35 x4_1.length co35) x4_1 t108 w _ ?side1 ?side2 A32.out).mono ?_);(case side1 => repeat (first|(with_reducible first|exact HB.out|apply za_|apply zn_|apply zd_)|exact HB.out));(case side2 => exact Kd.R_tight rfl HO_4.out);rintro e w36 ⟨rfl,hy0,hb,hkp⟩;have n0_:=zm_ (Kd.R_reok rfl hy0 (fun k_ e_ => HO_4.out.1 k_ e_));have n1_:=zm_ (hb);clear HO_4;clear HB;have HO_4:=n0_;have HB:=n1_;clear n0_ n1_;(try clear hb);(try clear hkp);(try clear hy0))|(go_at_call 37;(with_reducible refine (slices_Compact_byte_byte.calls (fun k_ => some k_ = (.slice Ao35 x4_1.length co35 : Value).ownBlock) (.slice Ao35 x4_1.length co35) t108 t109 w _ ?side1 ?side2 A33.out).mono ?_);(case side1 => repeat (first|(with_reducible first|exact HB.out|apply za_|apply zn_|apply zd_)|exact HB.out));(case side2 => exact Kd.R_tight rfl HO_4.out);rintro e w37 ⟨v110,rfl,ho0,hb,hkp⟩;have n0_:=zm_ (Kd.R_mono (ok':=fun k_ => True) ho0 (fun k_ hk_ => trivial));have n1_:=zm_ (hb);clear HB;clear HO_4;have HO111:=n0_;have HB:=n1_;clear n0_ n1_;(try clear hb);(try clear hkp);(try clear ho0))|(go_at_call 47;(with_reducible refine (impl_within.calls (a0.size : Int) 1 12 t112 _ A34.out).mono ?_);rintro e w' ⟨rfl,⟨nd,rfl⟩⟩;(try first|exact ⟨rfl,_,zw_ _ _ _⟩|exact ⟨rfl,_,Eq.trans (zw_ _ _ _) (congrArg (World.drewN _) (Nat.add_assoc _ _ _))⟩))))
    go_ret2
    exact ⟨_,by first|rfl|(simp [errW_none,errW_some] <;> rfl)|(simp [*,errW_none,errW_some] <;> rfl),by (with_reducible repeat (first|apply Kd.R_alloc|apply Kd.R_drewN|apply Kd.R_drew));exact HO111.out,by repeat (first|(with_reducible first|exact HB.out|apply za_|apply zn_|apply zd_)|exact HB.out)⟩

def impl_SetOk.f (k : Nat) (a0 : ByteArray) : Option (Bool):=(impl_readSet.f k a0).bind fun bt120 => (some bt120.2)
theorem impl_SetOk.mono : ∀ a0 k,LeO (impl_SetOk.f k a0) (impl_SetOk.f (k + 1) a0):=by
 intro a0 k
 unfold impl_SetOk.f
 repeat' first
   |(with_reducible exact impl_readSet.mono _ _)
   |(with_reducible exact LeO.refl _)
   |(with_reducible exact LeO.none _)
   |(with_reducible refine LeO.ite ?_ ?_)
   |(with_reducible refine LeO.bind ?_ (fun _ => ?_))
set_option maxHeartbeats 8000000 in
set_option maxRecDepth 100000 in
theorem impl_SetOk.calls (k : Nat) (a0 : ByteArray) (r : Bool) (w : World) (h : impl_SetOk.f k a0 = some r) :
  Calls Try.prog 14 #[.string a0] w fun e w' => e = .returned (.bool r) ∧ Below w.heap.size w w':=by
 have HB:=zm_ (Below.refl w.heap.size w)
 have H : ((impl_readSet.f k a0).bind fun bt120 => (some bt120.2)) = some r:=h
 clear h
 replace H:=Option.bind_eq_some_iff.mp H
 obtain ⟨⟨t120,t121⟩,A20,H⟩:=H
 replace H : (some t121) = some r:=H
 have A2:=zm_ A20
 clear A20
 obtain rfl:=Option.some.inj H
 go_enter Try.func14,Try.ntmps14
 go_wp2_with (first|((with_reducible refine gate_callee (f:=33) rfl ?_);refine goesL_ (some 7) rfl rfl Try.func33 (by kernel_rfl) rfl #[.string a0] rfl zq_ ?_;(with_reducible refine (impl_readSet.calls k a0 t120 t121 _ A2.out).mono ?_);rintro e w3 ⟨v122,rfl,ho0,hb⟩;refine ⟨_,rfl,?_⟩;have n0_:=zm_ (Kd.R_lower ho0 (below_size zB_));have n1_:=zm_ (below_step zB_ hb);clear HB;have HO123:=n0_;have HB:=n1_;clear n0_ n1_;(try clear hb);(try clear hb2);(try clear hk);(try clear hi);(try clear ho0)))
 go_ret
 exact ⟨zE_,by repeat (first|(with_reducible first|exact HB.out|apply za_|apply zn_|apply zd_)|exact HB.out)⟩

end Go.Proofs.Ytbkncnlehlldeaa.MFnSetsMet
