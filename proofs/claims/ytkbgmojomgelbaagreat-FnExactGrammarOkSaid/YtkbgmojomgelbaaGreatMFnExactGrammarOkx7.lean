import Derived.Test.YtkbgmojomgelbaaGreatMFnExactGrammarOkx0
import Derived.Test.YtkbgmojomgelbaaGreatMFnExactGrammarOkx5
import Derived.Test.YtkbgmojomgelbaaGreatMFnExactGrammarOkx6
namespace Go.Proofs.YtkbgmojomgelbaaGreat.MFnExactGrammarOk
open Go.RowKit Go.Proofs.YtkbgmojomgelbaaGreatW.PrintWords Go.Proofs.YtkbgmojomgelbaaGreatW.PrintLast Go.Proofs.YtkbgmojomgelbaaGreatW.PrintMore
attribute [local go_sem] max2_int min2_int max_two min_two max_three min_three max_four min_four
set_option linter.unusedVariables false
set_option linter.unusedSimpArgs false
set_option maxHeartbeats 8000000
set_option maxRecDepth 100000

mutual
def spec_l03Put.l0 : Nat → List ByteArray → ByteArray → List ByteArray → Int → Option (List ByteArray)
 |0,_,_,_,_ => none
 |k + 1,x0,x1,x5,x6 => if x6 < (x0.length : Int) then (if 0 ≤ x6 then (if (Op.bytesLess ((rdOf ByteArray.empty x0 x6).toList) x1.toList) = true then (if x5.length < 8796093022208 then (spec_l03Put.l0 k x0 x1 (x5 ++ [rdOf ByteArray.empty x0 x6]) (wrap64 (x6 + 1))) else (none)) else (spec_l03Put.l0 k x0 x1 x5 (wrap64 (x6 + 1)))) else (none)) else (if x5.length < 8796093022208 then (spec_l03Put.l1 k x0 x1 (x5 ++ [x1]) 0) else (none))
def spec_l03Put.l1 : Nat → List ByteArray → ByteArray → List ByteArray → Int → Option (List ByteArray)
 |0,_,_,_,_ => none
 |k + 1,x0,x1,x5,x7 => if x7 < (x0.length : Int) then (if 0 ≤ x7 then (if (Op.bytesLess x1.toList ((rdOf ByteArray.empty x0 x7).toList)) = true then (if x5.length < 8796093022208 then (spec_l03Put.l1 k x0 x1 (x5 ++ [rdOf ByteArray.empty x0 x7]) (wrap64 (x7 + 1))) else (none)) else (spec_l03Put.l1 k x0 x1 x5 (wrap64 (x7 + 1)))) else (none)) else (some x5)
end
def spec_l03Put.f (k : Nat) (l0 : List ByteArray) (a1 : ByteArray) : Option (List ByteArray):=spec_l03Put.l0 k l0 a1 (([] : List ByteArray)) 0
theorem spec_l03Put.calls (k : Nat) (A0 : Option Addr) (c0 : Nat) (l0 : List ByteArray) (a1 : ByteArray) (r : List ByteArray) (w : World) (hr0 : Kd.C Kd.string w A0 l0.length l0) (hc0 : l0.length ≤ c0) (h : spec_l03Put.f k l0 a1 = some r) :
  Calls Tryz.prog 68 #[.slice A0 l0.length c0,.string a1] w fun e w' => ∃ v0_ : Value,e = .returned (v0_) ∧ Kd.R Kd.string 9 w' w.heap.size (fun _ => True) v0_ r ∧ Below w.heap.size w w':=by
 have HR0:=zm_ hr0
 have HC0:=zm_ hc0
 clear hr0 hc0
 have HB:=zm_ (Below.refl w.heap.size w)
 have H : (spec_l03Put.l0 k l0 a1 (([] : List ByteArray)) 0) = some r:=h
 clear h
 obtain ⟨y158,hy158⟩ : ∃ y_ : List ByteArray,y_ = (([] : List ByteArray)):=⟨_,rfl⟩
 replace H : (spec_l03Put.l0 k l0 a1 y158 0) = some r:=by first|(rw [hy158];with_reducible exact H)|(have H2_:=(Option.bind_some _ _).symm.trans H;rw [hy158];with_reducible exact H2_)|(have H2_:=(Option.bind_some _ _).symm.trans H;with_reducible exact H2_)|with_reducible exact H|(rw [hy158];exact H)|exact H
 have Ny158:=zm_ hy158
 clear hy158
 have H':=zm_ H
 clear H
 go_enter Tryz.func68,Tryz.ntmps68
 go_wp2_with (first|((with_reducible refine gate_dst (N:=8) rfl ?_);refine Kd.R_lit Kd.string _ 9 ?hg (N:=8) ?hd (xs:=([] : List ByteArray)) (inner:=[]) (ok:=fun _ => True) (okp:=fun _ => True) ?hr ?hp (fun _ hk => hk) trivial (Below.refl _ _) (Nat.le_refl _) (by simp) ?_;(case hd => rfl);(case hg => rfl);(case hr => first|(go_simp;done)|(go_simp;rfl));(case hp => exact (Reps.none _ _));intro v159 w3 ho4 hb hg_ hnew_;clear hg_ hnew_;(first|rw [← Ny158.out] at ho4|(simp only [Int.reduceToNat] at ho4;rw [← Ny158.out] at ho4));have n0_:=zm_ (Kd.R_lower ho4 (below_size zB_));have n1_:=zm_ (below_step zB_ hb);clear HB;have HO160:=n0_;have HB:=n1_;clear n0_ n1_;clear hb ho4))
 go_loopg [5,6] k (fun kq v5 v6 w' => ∃ (x5_1 : List ByteArray) (x6_1 : Int),v6 = .int .i64 x6_1 ∧ Aside0 (spec_l03Put.l0 kq l0 a1 x5_1 x6_1 = some r) ∧ Aside0 (kq ≤ k) ∧ Aside0 (Kd.R Kd.string 9 w' w.heap.size (fun _ => True) v5 x5_1) ∧ Aside0 (Below w.heap.size w w'))
 case atStart => exact ⟨(y158),(0),zV_,H',⟨Nat.le_refl _⟩,⟨zO_⟩,⟨zG_⟩⟩
 case round =>
  clear H'
  obtain ⟨x5_1,x6_1,rfl,HA,HK1,HO_5,HB⟩:=hrel
  cases gk with
  |zero => exact absurd HA.out (by simp [spec_l03Put.l0])
  |succ k1 =>
   have H:=HA.out
   clear HA
   simp only [spec_l03Put.l0] at H
   by_cases c5 : x6_1 < (l0.length : Int)
   ·rw [if_pos c5] at H
    have c5b0:=decide_eq_true c5
    clear c5
    by_cases c6 : 0 ≤ x6_1
    rotate_left
    ·rw [if_neg c6] at H
     cases H
    rw [if_pos c6] at H
    have c6b0:=decide_eq_true c6
    clear c6
    by_cases c7 : (Op.bytesLess ((rdOf ByteArray.empty l0 x6_1).toList) a1.toList) = true
    rotate_left
    ·rw [if_neg c7] at H
     have c7b0 : (Op.bytesLess ((rdOf ByteArray.empty l0 x6_1).toList) a1.toList) = false:=by simpa using c7
     clear c7
     have H':=zm_ H
     clear H
     have p161 : 0 ≤ (x6_1 : Int):=zo_
     have q161 : x6_1 < (l0.length : Int):=zo_
     obtain ⟨ad161,e161,hx161_0⟩:=Kd.at_string HR0.out x6_1 p161 q161
     cases e161
     replace hx161_0:=(HB.out.cell (zb_ w _ hx161_0)).trans hx161_0
     replace p161:=eq_true p161
     replace q161:=eq_true q161
     go_wp2
     go_roundg k1
     case measure => have:=HK1.out;omega
     case rel => exact ⟨(x5_1),(wrap64 (x6_1 + 1)),zV_,H',⟨by have:=HK1.out;omega⟩,⟨zO_⟩,⟨zG_⟩⟩
    rw [if_pos c7] at H
    have c7b0 : (Op.bytesLess ((rdOf ByteArray.empty l0 x6_1).toList) a1.toList) = true:=c7
    clear c7
    by_cases c8 : x5_1.length < 8796093022208
    rotate_left
    ·rw [if_neg c8] at H
     cases H
    rw [if_pos c8] at H
    have LMc8:=zm_ c8
    clear c8
    obtain ⟨y163,hy163⟩ : ∃ y_ : List ByteArray,y_ = (x5_1 ++ [rdOf ByteArray.empty l0 x6_1]):=⟨_,rfl⟩
    replace H : (spec_l03Put.l0 k1 l0 a1 y163 (wrap64 (x6_1 + 1))) = some r:=by first|(rw [hy163];with_reducible exact H)|(have H2_:=(Option.bind_some _ _).symm.trans H;rw [hy163];with_reducible exact H2_)|(have H2_:=(Option.bind_some _ _).symm.trans H;with_reducible exact H2_)|with_reducible exact H|(rw [hy163];exact H)|exact H
    have Ny163:=zm_ hy163
    clear hy163
    have H':=zm_ H
    clear H
    have p161 : 0 ≤ (x6_1 : Int):=zo_
    have q161 : x6_1 < (l0.length : Int):=zo_
    obtain ⟨ad161,e161,hx161_0⟩:=Kd.at_string HR0.out x6_1 p161 q161
    cases e161
    replace hx161_0:=(HB.out.cell (zb_ w _ hx161_0)).trans hx161_0
    replace p161:=eq_true p161
    replace q161:=eq_true q161
    have p162 : 0 ≤ (x6_1 : Int):=zo_
    have q162 : x6_1 < (l0.length : Int):=zo_
    obtain ⟨ad162,e162,hx162_0⟩:=Kd.at_string HR0.out x6_1 p162 q162
    obtain rfl : ad161 = ad162:=(by injection e162)
    replace hx162_0:=(HB.out.cell (zb_ w _ hx162_0)).trans hx162_0
    replace p162:=eq_true p162
    replace q162:=eq_true q162
    go_wp2_with (first|((with_reducible refine gate_builtin (b:=.append) (xs:=#[.tmp 21,.tmp 26]) rfl ?_);at_builtin;refine Kd.R_append Kd.string (w0:=w) w.heap.size rfl (.tmp 21) (.tmp 26) 46 9 (.string ⟨#[]⟩) 16 rfl Tryz.underlying46 info9 rfl (by decide) (by omega) u5 x5_1 (rdOf ByteArray.empty l0 x6_1) [.string (rdOf ByteArray.empty l0 x6_1)] (fun _ => True) (fun _ => False) rfl rfl ?aP (fun _ hk => hk.elim) ?aF ?aO ?aB ?aS ?aL ?_;(case aP => exact rfl);(case aB => exact zB_);(case aF => exact (fun _ _ => trivial));(case aO => exact zO_);(case aS => exact (below_size zB_));(case aL => have:=LMc8.out;omega);intro v164 w9 ho hb hg hat;rw [← Ny163.out] at ho;have n0_:=zm_ (hb);have n1_:=zm_ (ho);clear HB;clear HO_5;have HB:=n0_;have HO165:=n1_;clear n0_ n1_;clear ho hb hg hat))
    go_roundg k1
    case measure => have:=HK1.out;omega
    case rel => exact ⟨(y163),(wrap64 (x6_1 + 1)),zV_,H',⟨by have:=HK1.out;omega⟩,⟨zO_⟩,⟨zG_⟩⟩
   rw [if_neg c5] at H
   have c5b0:=decide_eq_false c5
   clear c5
   by_cases c10 : x5_1.length < 8796093022208
   rotate_left
   ·rw [if_neg c10] at H
    cases H


   rw [if_pos c10] at H
   have LMc10:=zm_ c10
   clear c10
   obtain ⟨y166,hy166⟩ : ∃ y_ : List ByteArray,y_ = (x5_1 ++ [a1]):=⟨_,rfl⟩
   replace H : (spec_l03Put.l1 k1 l0 a1 y166 0) = some r:=by first|(rw [hy166];with_reducible exact H)|(have H2_:=(Option.bind_some _ _).symm.trans H;rw [hy166];with_reducible exact H2_)|(have H2_:=(Option.bind_some _ _).symm.trans H;with_reducible exact H2_)|with_reducible exact H|(rw [hy166];exact H)|exact H
   have Ny166:=zm_ hy166
   clear hy166
   have H':=zm_ H
   clear H
   go_wp2_with (first|((with_reducible refine gate_builtin (b:=.append) (xs:=#[.tmp 28,.tmp 30]) rfl ?_);at_builtin;refine Kd.R_append Kd.string (w0:=w) w.heap.size rfl (.tmp 28) (.tmp 30) 46 9 (.string ⟨#[]⟩) 16 rfl Tryz.underlying46 info9 rfl (by decide) (by omega) u5 x5_1 a1 [.string a1] (fun _ => True) (fun _ => False) rfl rfl ?aP (fun _ hk => hk.elim) ?aF ?aO ?aB ?aS ?aL ?_;(case aP => exact rfl);(case aB => exact zB_);(case aF => exact (fun _ _ => trivial));(case aO => exact zO_);(case aS => exact (below_size zB_));(case aL => have:=LMc10.out;omega);intro v167 w11 ho hb hg hat;rw [← Ny166.out] at ho;have n0_:=zm_ (hb);have n1_:=zm_ (ho);clear HB;clear HO_5;have HB:=n0_;have HO168:=n1_;clear n0_ n1_;clear ho hb hg hat))
   go_loopg [5,7] k1 (fun kq v5 v7 w' => ∃ (x5_2 : List ByteArray) (x7_2 : Int),v7 = .int .i64 x7_2 ∧ Aside0 (spec_l03Put.l1 kq l0 a1 x5_2 x7_2 = some r) ∧ Aside0 (kq ≤ k1) ∧ Aside0 (Kd.R Kd.string 9 w' w.heap.size (fun _ => True) v5 x5_2) ∧ Aside0 (Below w.heap.size w w'))
   case atStart => exact ⟨(y166),(0),zV_,H',⟨Nat.le_refl _⟩,⟨zO_⟩,⟨zG_⟩⟩
   case round =>
    clear H'
    obtain ⟨x5_2,x7_2,rfl,HA,HK2,HO_5,HB⟩:=hrel
    cases gk with
    |zero => exact absurd HA.out (by simp [spec_l03Put.l1])
    |succ k2 =>
     have H:=HA.out
     clear HA
     simp only [spec_l03Put.l1] at H
     by_cases c12 : x7_2 < (l0.length : Int)
     rotate_left
     ·rw [if_neg c12] at H
      have c12b0:=decide_eq_false c12
      clear c12
      obtain rfl:=zi_ H
      go_wp2
      go_ret
      exact ⟨_,by first|rfl|(simp [errW_none,errW_some] <;> rfl)|(simp [*,errW_none,errW_some] <;> rfl),by (with_reducible repeat (first|apply Kd.R_alloc|apply Kd.R_drewN|apply Kd.R_drew));exact HO_5.out,zG_⟩
     rw [if_pos c12] at H
     have c12b0:=decide_eq_true c12
     clear c12
     by_cases c13 : 0 ≤ x7_2
     rotate_left
     ·rw [if_neg c13] at H
      cases H
     rw [if_pos c13] at H
     have c13b0:=decide_eq_true c13
     clear c13
     by_cases c14 : (Op.bytesLess a1.toList ((rdOf ByteArray.empty l0 x7_2).toList)) = true
     rotate_left
     ·rw [if_neg c14] at H
      have c14b0 : (Op.bytesLess a1.toList ((rdOf ByteArray.empty l0 x7_2).toList)) = false:=by simpa using c14
      clear c14
      have H':=zm_ H
      clear H
      have p169 : 0 ≤ (x7_2 : Int):=zo_
      have q169 : x7_2 < (l0.length : Int):=zo_
      obtain ⟨ad169,e169,hx169_0⟩:=Kd.at_string HR0.out x7_2 p169 q169
      cases e169
      replace hx169_0:=(HB.out.cell (zb_ w _ hx169_0)).trans hx169_0
      replace p169:=eq_true p169
      replace q169:=eq_true q169
      go_wp2
      go_roundg k2
      case measure => have:=HK1.out;have:=HK2.out;omega
      case rel => exact ⟨(x5_2),(wrap64 (x7_2 + 1)),zV_,H',⟨by have:=HK1.out;have:=HK2.out;omega⟩,⟨zO_⟩,⟨zG_⟩⟩
     rw [if_pos c14] at H
     have c14b0 : (Op.bytesLess a1.toList ((rdOf ByteArray.empty l0 x7_2).toList)) = true:=c14
     clear c14
     by_cases c15 : x5_2.length < 8796093022208
     rotate_left
     ·rw [if_neg c15] at H
      cases H
     rw [if_pos c15] at H
     have LMc15:=zm_ c15
     clear c15
     obtain ⟨y171,hy171⟩ : ∃ y_ : List ByteArray,y_ = (x5_2 ++ [rdOf ByteArray.empty l0 x7_2]):=⟨_,rfl⟩
     replace H : (spec_l03Put.l1 k2 l0 a1 y171 (wrap64 (x7_2 + 1))) = some r:=by first|(rw [hy171];with_reducible exact H)|(have H2_:=(Option.bind_some _ _).symm.trans H;rw [hy171];with_reducible exact H2_)|(have H2_:=(Option.bind_some _ _).symm.trans H;with_reducible exact H2_)|with_reducible exact H|(rw [hy171];exact H)|exact H
     have Ny171:=zm_ hy171
     clear hy171
     have H':=zm_ H
     clear H
     have p169 : 0 ≤ (x7_2 : Int):=zo_
     have q169 : x7_2 < (l0.length : Int):=zo_
     obtain ⟨ad169,e169,hx169_0⟩:=Kd.at_string HR0.out x7_2 p169 q169
     cases e169
     replace hx169_0:=(HB.out.cell (zb_ w _ hx169_0)).trans hx169_0
     replace p169:=eq_true p169
     replace q169:=eq_true q169
     have p170 : 0 ≤ (x7_2 : Int):=zo_
     have q170 : x7_2 < (l0.length : Int):=zo_
     obtain ⟨ad170,e170,hx170_0⟩:=Kd.at_string HR0.out x7_2 p170 q170
     obtain rfl : ad169 = ad170:=(by injection e170)
     replace hx170_0:=(HB.out.cell (zb_ w _ hx170_0)).trans hx170_0
     replace p170:=eq_true p170
     replace q170:=eq_true q170
     go_wp2_with (first|((with_reducible refine gate_builtin (b:=.append) (xs:=#[.tmp 44,.tmp 49]) rfl ?_);at_builtin;refine Kd.R_append Kd.string (w0:=w) w.heap.size rfl (.tmp 44) (.tmp 49) 46 9 (.string ⟨#[]⟩) 16 rfl Tryz.underlying46 info9 rfl (by decide) (by omega) u5 x5_2 (rdOf ByteArray.empty l0 x7_2) [.string (rdOf ByteArray.empty l0 x7_2)] (fun _ => True) (fun _ => False) rfl rfl ?aP (fun _ hk => hk.elim) ?aF ?aO ?aB ?aS ?aL ?_;(case aP => exact rfl);(case aB => exact zB_);(case aF => exact (fun _ _ => trivial));(case aO => exact zO_);(case aS => exact (below_size zB_));(case aL => have:=LMc15.out;omega);intro v172 w16 ho hb hg hat;rw [← Ny171.out] at ho;have n0_:=zm_ (hb);have n1_:=zm_ (ho);clear HB;clear HO_5;have HB:=n0_;have HO173:=n1_;clear n0_ n1_;clear ho hb hg hat))
     go_roundg k2
     case measure => have:=HK1.out;have:=HK2.out;omega
     case rel => exact ⟨(y171),(wrap64 (x7_2 + 1)),zV_,H',⟨by have:=HK1.out;have:=HK2.out;omega⟩,⟨zO_⟩,⟨zG_⟩⟩
def spec_FreeOf.l0 : Nat → List ByteArray → Int → List (S147) → Option (List ByteArray)
 |0,_,_,_ => none
 |k + 1,x3,x4,x175000 => if x4 < (x175000.length : Int) then (if 0 ≤ x4 then (if ((rd_T147 x175000 x4).f0) = 2 then ((spec_l03Put.f k x3 ((rd_T147 x175000 x4).f2)).bind fun t181 => (spec_FreeOf.l0 k t181 (wrap64 (x4 + 1)) x175000)) else (spec_FreeOf.l0 k x3 (wrap64 (x4 + 1)) x175000)) else (none)) else (some x3)
def spec_FreeOf.f (k : Nat) (l0_0 : List (S147)) : Option (List ByteArray):=(some (([] : List ByteArray) : List ByteArray)).bind fun y175 => ((spec_ExprOk.f k l0_0).bind fun t178 => (if t178 = true then (spec_FreeOf.l0 k y175 0 l0_0) else (some y175)))
theorem spec_FreeOf.calls (k : Nat) (A0_0 : Option Addr) (c0_0 : Nat) (l0_0 : List (S147)) (r : List ByteArray) (w : World) (hr0_0 : Kd.C k147 w A0_0 l0_0.length l0_0) (hc0_0 : l0_0.length ≤ c0_0) (h : spec_FreeOf.f k l0_0 = some r) :
  Calls Tryz.prog 118 #[.agg #[.slice A0_0 l0_0.length c0_0]] w fun e w' => ∃ v0_ : Value,e = .returned (v0_) ∧ Kd.R Kd.string 9 w' w.heap.size (fun _ => True) v0_ r ∧ Below w.heap.size w w':=by
 have hu123:=Tryz.underlying123
 have HR0_0:=zm_ hr0_0
 have HC0_0:=zm_ hc0_0
 clear hr0_0 hc0_0
 have HB:=zm_ (Below.refl w.heap.size w)
 have H : ((some (([] : List ByteArray) : List ByteArray)).bind fun y175 => ((spec_ExprOk.f k l0_0).bind fun t178 => (if t178 = true then (spec_FreeOf.l0 k y175 0 l0_0) else (some y175)))) = some r:=h
 clear h
 obtain ⟨y175,hy175⟩ : ∃ y_ : List ByteArray,y_ = (([] : List ByteArray)):=⟨_,rfl⟩
 replace H : ((spec_ExprOk.f k l0_0).bind fun t178 => (if t178 = true then (spec_FreeOf.l0 k y175 0 l0_0) else (some y175))) = some r:=by first|(rw [hy175];with_reducible exact H)|(have H2_:=(Option.bind_some _ _).symm.trans H;rw [hy175];with_reducible exact H2_)|(have H2_:=(Option.bind_some _ _).symm.trans H;with_reducible exact H2_)|with_reducible exact H|(rw [hy175];exact H)|exact H
 have Ny175:=zm_ hy175
 clear hy175
 obtain ⟨t178,A2,H⟩:=zJ_ H
 try dsimp only at H
 by_cases c3 : t178 = true
 rotate_left
 ·replace c3:=Bool.eq_false_iff.mpr c3
  subst c3
  rw [zF_] at H
  obtain rfl:=zi_ H
  go_enter Tryz.func118,Tryz.ntmps118
  go_wp2_with (first|((with_reducible refine gate_dst (N:=1) rfl ?_);refine box_event ?hg (N:=1) ?hd (cs:=#[.slice A0_0 l0_0.length c0_0]) (t:=123) ?hr ?_;(case hd => rfl);(case hg => rfl);(case hr => first|(go_simp;done)|(go_simp;rfl));intro gb174 hg w18 hbox hb;have n0_:=zm_ (below_step zB_ hb);have n1_:=zm_ (hbox);have n2_:=zm_ ((by rw [hg];exact (below_size zB_) : w.heap.size ≤ gb174));have n3_:=zm_ ((by rw [hg];exact (below_size zB_) : w.heap.size ≤ gb174));clear HB;have HB:=n0_;have BK174:=n1_;have GW174:=n2_;have GE174:=n3_;clear n0_ n1_ n2_ n3_;clear hb hbox hg)|((with_reducible refine gate_dst (N:=5) rfl ?_);refine Kd.R_lit Kd.string _ 9 ?hg (N:=5) ?hd (xs:=([] : List ByteArray)) (inner:=[]) (ok:=fun _ => True) (okp:=fun _ => True) ?hr ?hp (fun _ hk => hk) trivial (Below.refl _ _) (Nat.le_refl _) (by simp) ?_;(case hd => rfl);(case hg => rfl);(case hr => first|(go_simp;done)|(go_simp;rfl));(case hp => exact (Reps.none _ _));intro v176 w19 ho20 hb hg_ hnew_;clear hg_ hnew_;(first|rw [← Ny175.out] at ho20|(simp only [Int.reduceToNat] at ho20;rw [← Ny175.out] at ho20));have n0_:=zm_ (Kd.R_lower ho20 (below_size zG_));have n1_:=zm_ (blk_below (g:=gb174) (o:=.cells #[.slice A0_0 l0_0.length c0_0] 123 (0,0)) zK_ hb);have n2_:=zm_ (below_step zG_ hb);clear BK174;clear HB;have HO177:=n0_;have BK174:=n1_;have HB:=n2_;clear n0_ n1_ n2_;clear hb ho20;have hcz21_0 : w19.cell? ⟨gb174,0,none⟩ = some (.slice A0_0 l0_0.length c0_0):=(zc_ BK174.out 0).trans rfl;have hfz21_0:=zf_ BK174.out 0)|((with_reducible refine gate_callee (f:=104) rfl ?_);refine goesL_ (some 7) rfl rfl Tryz.func104 (by kernel_rfl) rfl #[.agg #[.slice A0_0 l0_0.length c0_0]] rfl zq_ ?_;(with_reducible refine (spec_ExprOk.calls k _ _ l0_0 false _ ?side1 ?side2 A2.out).mono ?_);(case side1 => exact zP_);(case side2 => exact HC0_0.out);rintro e w22 ⟨rfl,hb⟩;refine ⟨_,rfl,?_⟩;have n0_:=zm_ (Kd.R_below (by (with_reducible repeat (first|apply Kd.R_alloc|apply Kd.R_drewN|apply Kd.R_drew));exact HO177.out) hb);have n1_:=zm_ (blk_below (g:=gb174) (o:=.cells #[.slice A0_0 l0_0.length c0_0] 123 (0,0)) zK_ hb);have n2_:=zm_ (below_step zG_ hb);clear HO177;clear BK174;clear HB;have HO177:=n0_;have BK174:=n1_;have HB:=n2_;clear n0_ n1_ n2_;(try clear hb)))
  go_ret
  exact ⟨_,by first|rfl|(simp [errW_none,errW_some] <;> rfl)|(simp [*,errW_none,errW_some] <;> rfl),by (with_reducible repeat (first|apply Kd.R_alloc|apply Kd.R_drewN|apply Kd.R_drew));exact HO177.out,zG_⟩


 subst c3
 rw [if_pos rfl] at H
 have H':=zm_ H
 clear H
 go_enter Tryz.func118,Tryz.ntmps118
 go_wp2_with (first|((with_reducible refine gate_dst (N:=1) rfl ?_);refine box_event ?hg (N:=1) ?hd (cs:=#[.slice A0_0 l0_0.length c0_0]) (t:=123) ?hr ?_;(case hd => rfl);(case hg => rfl);(case hr => first|(go_simp;done)|(go_simp;rfl));intro gb174 hg w4 hbox hb;have n0_:=zm_ (below_step zB_ hb);have n1_:=zm_ (hbox);have n2_:=zm_ ((by rw [hg];exact (below_size zB_) : w.heap.size ≤ gb174));have n3_:=zm_ ((by rw [hg];exact (below_size zB_) : w.heap.size ≤ gb174));clear HB;have HB:=n0_;have BK174:=n1_;have GW174:=n2_;have GE174:=n3_;clear n0_ n1_ n2_ n3_;clear hb hbox hg)|((with_reducible refine gate_dst (N:=5) rfl ?_);refine Kd.R_lit Kd.string _ 9 ?hg (N:=5) ?hd (xs:=([] : List ByteArray)) (inner:=[]) (ok:=fun _ => True) (okp:=fun _ => True) ?hr ?hp (fun _ hk => hk) trivial (Below.refl _ _) (Nat.le_refl _) (by simp) ?_;(case hd => rfl);(case hg => rfl);(case hr => first|(go_simp;done)|(go_simp;rfl));(case hp => exact (Reps.none _ _));intro v176 w5 ho6 hb hg_ hnew_;clear hg_ hnew_;(first|rw [← Ny175.out] at ho6|(simp only [Int.reduceToNat] at ho6;rw [← Ny175.out] at ho6));have n0_:=zm_ (Kd.R_lower ho6 (below_size zG_));have n1_:=zm_ (blk_below (g:=gb174) (o:=.cells #[.slice A0_0 l0_0.length c0_0] 123 (0,0)) zK_ hb);have n2_:=zm_ (below_step zG_ hb);clear BK174;clear HB;have HO177:=n0_;have BK174:=n1_;have HB:=n2_;clear n0_ n1_ n2_;clear hb ho6;have hcz7_0 : w5.cell? ⟨gb174,0,none⟩ = some (.slice A0_0 l0_0.length c0_0):=(zc_ BK174.out 0).trans rfl;have hfz7_0:=zf_ BK174.out 0)|((with_reducible refine gate_callee (f:=104) rfl ?_);refine goesL_ (some 7) rfl rfl Tryz.func104 (by kernel_rfl) rfl #[.agg #[.slice A0_0 l0_0.length c0_0]] rfl zq_ ?_;(with_reducible refine (spec_ExprOk.calls k _ _ l0_0 true _ ?side1 ?side2 A2.out).mono ?_);(case side1 => exact zP_);(case side2 => exact HC0_0.out);rintro e w8 ⟨rfl,hb⟩;refine ⟨_,rfl,?_⟩;have n0_:=zm_ (Kd.R_below (by (with_reducible repeat (first|apply Kd.R_alloc|apply Kd.R_drewN|apply Kd.R_drew));exact HO177.out) hb);have n1_:=zm_ (blk_below (g:=gb174) (o:=.cells #[.slice A0_0 l0_0.length c0_0] 123 (0,0)) zK_ hb);have n2_:=zm_ (below_step zG_ hb);clear HO177;clear BK174;clear HB;have HO177:=n0_;have BK174:=n1_;have HB:=n2_;clear n0_ n1_ n2_;(try clear hb)))
 go_loopg [3,4] k (fun kq v3 v4 w' => ∃ (x3_1 : List ByteArray) (x4_1 : Int),v4 = .int .i64 x4_1 ∧ Aside0 (spec_FreeOf.l0 kq x3_1 x4_1 l0_0 = some r) ∧ Aside0 (kq ≤ k) ∧ Aside0 (Kd.R Kd.string 9 w' w.heap.size (fun _ => True) v3 x3_1) ∧ Aside0 (w'.heap[gb174]? = some (.cells #[(.slice A0_0 l0_0.length c0_0)] 123 (0,0))) ∧ Aside0 (Below w.heap.size w w'))
 case atStart => exact ⟨(y175),(0),zV_,H',⟨Nat.le_refl _⟩,⟨zO_⟩,⟨zK_⟩,⟨zG_⟩⟩
 case round =>
  clear H'
  obtain ⟨x3_1,x4_1,rfl,HA,HK1,HO_3,BK174,HB⟩:=hrel
  cases gk with
  |zero => exact absurd HA.out (by simp [spec_FreeOf.l0])
  |succ k1 =>
   have H:=HA.out
   clear HA
   simp only [spec_FreeOf.l0] at H
   by_cases c9 : x4_1 < (l0_0.length : Int)
   rotate_left
   ·rw [if_neg c9] at H
    have c9b0:=decide_eq_false c9
    clear c9
    obtain rfl:=zi_ H
    have hcz17_0 : wr.cell? ⟨gb174,0,none⟩ = some (.slice A0_0 l0_0.length c0_0):=(zc_ BK174.out 0).trans rfl
    have hfz17_0:=zf_ BK174.out 0
    go_wp2
    go_ret
    exact ⟨_,by first|rfl|(simp [errW_none,errW_some] <;> rfl)|(simp [*,errW_none,errW_some] <;> rfl),by (with_reducible repeat (first|apply Kd.R_alloc|apply Kd.R_drewN|apply Kd.R_drew));exact HO_3.out,zG_⟩
   rw [if_pos c9] at H
   have c9b0:=decide_eq_true c9
   clear c9
   by_cases c10 : 0 ≤ x4_1
   rotate_left
   ·rw [if_neg c10] at H
    cases H
   rw [if_pos c10] at H
   have c10b0:=decide_eq_true c10
   clear c10
   by_cases c11 : ((rd_T147 l0_0 x4_1).f0) = 2
   rotate_left
   ·rw [if_neg c11] at H
    have c11b0 : (((rd_T147 l0_0 x4_1).f0) == 2) = false:=beq_eq_false_iff_ne.mpr c11
    have c11b1 : (((rd_T147 l0_0 x4_1).f0) != 2) = true:=bne_iff_ne.mpr c11
    have H':=zm_ H
    clear H
    have hcz16_0 : wr.cell? ⟨gb174,0,none⟩ = some (.slice A0_0 l0_0.length c0_0):=(zc_ BK174.out 0).trans rfl
    have hfz16_0:=zf_ BK174.out 0
    have p179 : 0 ≤ (x4_1 : Int):=zo_
    have q179 : x4_1 < (l0_0.length : Int):=zo_
    obtain ⟨ad179,A179_3,c179_3,e179,hx179_0,hx179_1,hx179_2,hx179_3,hl179_3,hi179_3⟩:=at_T147 HR0_0.out x4_1 p179 q179
    cases e179
    replace hx179_0:=(HB.out.cell (zb_ w _ hx179_0)).trans hx179_0
    replace hx179_1:=(HB.out.cell (zb_ w _ hx179_1)).trans hx179_1
    replace hx179_2:=(HB.out.cell (zb_ w _ hx179_2)).trans hx179_2
    replace hx179_3:=(HB.out.cell (zb_ w _ hx179_3)).trans hx179_3
    have HR179_3:=zm_ hi179_3
    have HC179_3:=zm_ hl179_3
    clear hi179_3 hl179_3
    replace p179:=eq_true p179
    replace q179:=eq_true q179
    go_wp2
    go_roundg k1
    case measure => have:=HK1.out;omega
    case rel => exact ⟨(x3_1),(wrap64 (x4_1 + 1)),zV_,H',⟨by have:=HK1.out;omega⟩,⟨zO_⟩,⟨zK_⟩,⟨zG_⟩⟩
   rw [if_pos c11] at H
   have c11b0 : (((rd_T147 l0_0 x4_1).f0) == 2) = true:=beq_iff_eq.mpr c11
   have c11b1 : (((rd_T147 l0_0 x4_1).f0) != 2) = false:=bne_eq_false_iff_eq.mpr c11
   clear c11
   obtain ⟨t181,A12,H⟩:=zJ_ H
   try dsimp only at H
   have H':=zm_ H
   clear H
   have hcz13_0 : wr.cell? ⟨gb174,0,none⟩ = some (.slice A0_0 l0_0.length c0_0):=(zc_ BK174.out 0).trans rfl
   have hfz13_0:=zf_ BK174.out 0
   have p179 : 0 ≤ (x4_1 : Int):=zo_
   have q179 : x4_1 < (l0_0.length : Int):=zo_
   obtain ⟨ad179,A179_3,c179_3,e179,hx179_0,hx179_1,hx179_2,hx179_3,hl179_3,hi179_3⟩:=at_T147 HR0_0.out x4_1 p179 q179
   cases e179
   replace hx179_0:=(HB.out.cell (zb_ w _ hx179_0)).trans hx179_0
   replace hx179_1:=(HB.out.cell (zb_ w _ hx179_1)).trans hx179_1
   replace hx179_2:=(HB.out.cell (zb_ w _ hx179_2)).trans hx179_2
   replace hx179_3:=(HB.out.cell (zb_ w _ hx179_3)).trans hx179_3
   have HR179_3:=zm_ hi179_3
   have HC179_3:=zm_ hl179_3
   clear hi179_3 hl179_3
   replace p179:=eq_true p179
   replace q179:=eq_true q179
   have p180 : 0 ≤ (x4_1 : Int):=zo_
   have q180 : x4_1 < (l0_0.length : Int):=zo_
   obtain ⟨ad180,A180_3,c180_3,e180,hx180_0,hx180_1,hx180_2,hx180_3,hl180_3,hi180_3⟩:=at_T147 HR0_0.out x4_1 p180 q180
   obtain rfl : ad179 = ad180:=(by injection e180)
   replace hx180_0:=(HB.out.cell (zb_ w _ hx180_0)).trans hx180_0
   replace hx180_1:=(HB.out.cell (zb_ w _ hx180_1)).trans hx180_1
   replace hx180_2:=(HB.out.cell (zb_ w _ hx180_2)).trans hx180_2
   replace hx180_3:=(HB.out.cell (zb_ w _ hx180_3)).trans hx180_3
   have HR180_3:=zm_ hi180_3
   have HC180_3:=zm_ hl180_3
   clear hi180_3 hl180_3
   replace p180:=eq_true p180
   replace q180:=eq_true q180
   have ea_:=Option.some.inj (hx179_3.symm.trans hx180_3)
   injection ea_ with ea_ en_ ec_
   subst ea_
   subst ec_
   clear en_
   obtain ⟨Ao14,co14,eo14⟩:=Kd.R_slice HO_3.out
   subst eo14
   go_wp2_with (first|((with_reducible refine gate_callee (f:=68) rfl ?_);refine goesL_ (some 31) rfl rfl Tryz.func68 (by kernel_rfl) rfl #[.slice Ao14 x3_1.length co14,.string ((rd_T147 l0_0 x4_1).f2)] rfl zq_ ?_;(with_reducible refine (spec_l03Put.calls k1 _ _ x3_1 ((rd_T147 l0_0 x4_1).f2) t181 _ ?side1 ?side2 A12.out).mono ?_);(case side1 => repeat (first|exact (Kd.R_reads' HO_3.out).2.2|(with_reducible refine Kd.C_alloc ?_ _)|(with_reducible refine Kd.C_drewN ?_ _)|(with_reducible refine Kd.C_drew ?_)));(case side2 => exact (Kd.R_reads' HO_3.out).2.1);rintro e w15 ⟨v182,rfl,ho0,hb⟩;refine ⟨_,rfl,?_⟩;have n0_:=zm_ (Kd.R_elder' (by (with_reducible repeat (first|apply Kd.R_alloc|apply Kd.R_drewN|apply Kd.R_drew));exact HO_3.out) (Kd.R_base ho0) hb);have n1_:=zm_ (Kd.R_lower (Kd.R_new' ho0 (Kd.R_lt (by (with_reducible repeat (first|apply Kd.R_alloc|apply Kd.R_drewN|apply Kd.R_drew));exact HO_3.out))) (below_size zG_));have n2_:=zm_ (blk_below (g:=gb174) (o:=.cells #[.slice (some ad179) l0_0.length c0_0] 123 (0,0)) zK_ hb);have n3_:=zm_ (below_step zG_ hb);clear HO_3;clear BK174;clear HB;have HO_3:=n0_;have HO183:=n1_;have BK174:=n2_;have HB:=n3_;clear n0_ n1_ n2_ n3_;(try clear hb);(try clear hb2);(try clear hk);(try clear hi);(try clear ho0)))
   go_roundg k1
   case measure => have:=HK1.out;omega
   case rel => exact ⟨(t181),(wrap64 (x4_1 + 1)),zV_,H',⟨by have:=HK1.out;omega⟩,⟨by (with_reducible repeat (first|apply Kd.R_alloc|apply Kd.R_drewN|apply Kd.R_drew));exact Kd.R_mono HO183.out (fun _ hk => trivial)⟩,⟨zK_⟩,⟨zG_⟩⟩
def spec_l06Known.l0 : Nat → List ByteArray → List ByteArray → Int → List (S147) → Option (Bool)
 |0,_,_,_,_ => none
 |k + 1,x1,x5,x6,x185000 => if x6 < (x5.length : Int) then (if 0 ≤ x6 then ((spec_l03In.f k x1 (rdOf ByteArray.empty x5 x6)).bind fun t189 => (if t189 = true then (spec_l06Known.l0 k x1 x5 (wrap64 (x6 + 1)) x185000) else (some false))) else (none)) else ((spec_ExprOk.f k x185000).bind fun t190 => (some t190))
def spec_l06Known.f (k : Nat) (l0_0 : List (S147)) (l1 : List ByteArray) : Option (Bool):=(spec_FreeOf.f k l0_0).bind fun t185 => (spec_l06Known.l0 k l1 t185 0 l0_0)
theorem spec_l06Known.calls (k : Nat) (A0_0 : Option Addr) (c0_0 : Nat) (l0_0 : List (S147)) (A1 : Option Addr) (c1 : Nat) (l1 : List ByteArray) (r : Bool) (w : World) (hr0_0 : Kd.C k147 w A0_0 l0_0.length l0_0) (hc0_0 : l0_0.length ≤ c0_0) (hr1 : Kd.C Kd.string w A1 l1.length l1) (hc1 : l1.length ≤ c1) (h : spec_l06Known.f k l0_0 l1 = some r) :
  Calls Tryz.prog 94 #[.agg #[.slice A0_0 l0_0.length c0_0],.slice A1 l1.length c1] w fun e w' => e = .returned (.bool r) ∧ Below w.heap.size w w':=by
 have hu123:=Tryz.underlying123
 have HR0_0:=zm_ hr0_0
 have HC0_0:=zm_ hc0_0
 clear hr0_0 hc0_0
 have HR1:=zm_ hr1
 have HC1:=zm_ hc1
 clear hr1 hc1
 have HB:=zm_ (Below.refl w.heap.size w)
 have H : ((spec_FreeOf.f k l0_0).bind fun t185 => (spec_l06Known.l0 k l1 t185 0 l0_0)) = some r:=h
 clear h
 obtain ⟨t185,A3,H⟩:=zJ_ H
 try dsimp only at H
 have H':=zm_ H
 clear H
 go_enter Tryz.func94,Tryz.ntmps94
 go_wp2_with (first|((with_reducible refine gate_dst (N:=2) rfl ?_);refine box_event ?hg (N:=2) ?hd (cs:=#[.slice A0_0 l0_0.length c0_0]) (t:=123) ?hr ?_;(case hd => rfl);(case hg => rfl);(case hr => first|(go_simp;done)|(go_simp;rfl));intro gb184 hg w4 hbox hb;have n0_:=zm_ (below_step zB_ hb);have n1_:=zm_ (hbox);have n2_:=zm_ ((by rw [hg];exact (below_size zB_) : w.heap.size ≤ gb184));have n3_:=zm_ ((by rw [hg];exact (below_size zB_) : w.heap.size ≤ gb184));clear HB;have HB:=n0_;have BK184:=n1_;have GW184:=n2_;have GE184:=n3_;clear n0_ n1_ n2_ n3_;clear hb hbox hg;have hcz5_0 : w4.cell? ⟨gb184,0,none⟩ = some (.slice A0_0 l0_0.length c0_0):=(zc_ BK184.out 0).trans rfl;have hfz5_0:=zf_ BK184.out 0)|((with_reducible refine gate_callee (f:=118) rfl ?_);refine goesL_ (some 8) rfl rfl Tryz.func118 (by kernel_rfl) rfl #[.agg #[.slice A0_0 l0_0.length c0_0]] rfl zq_ ?_;(with_reducible refine (spec_FreeOf.calls k _ _ l0_0 t185 _ ?side1 ?side2 A3.out).mono ?_);(case side1 => exact zP_);(case side2 => exact HC0_0.out);rintro e w6 ⟨v186,rfl,ho0,hb⟩;refine ⟨_,rfl,?_⟩;have n0_:=zm_ (Kd.R_lower ho0 (below_size zG_));have n1_:=zm_ (blk_below (g:=gb184) (o:=.cells #[.slice A0_0 l0_0.length c0_0] 123 (0,0)) zK_ hb);have n2_:=zm_ (below_step zG_ hb);clear BK184;clear HB;have HO187:=n0_;have BK184:=n1_;have HB:=n2_;clear n0_ n1_ n2_;(try clear hb);(try clear hb2);(try clear hk);(try clear hi);(try clear ho0)))
 go_loopg [6] k (fun kq v6 w' => ∃ (x6_1 : Int),v6 = .int .i64 x6_1 ∧ Aside0 (spec_l06Known.l0 kq l1 t185 x6_1 l0_0 = some r) ∧ Aside0 (kq ≤ k) ∧ Aside0 (Kd.R Kd.string 9 w' w.heap.size (fun _ => True) v186 t185) ∧ Aside0 (w'.heap[gb184]? = some (.cells #[(.slice A0_0 l0_0.length c0_0)] 123 (0,0))) ∧ Aside0 (Below w.heap.size w w'))
 case atStart => exact ⟨(0),zV_,H',⟨Nat.le_refl _⟩,⟨zO_⟩,⟨zK_⟩,⟨zG_⟩⟩
 case round =>
  clear H'
  obtain ⟨x6_1,rfl,HA,HK1,HO_5,BK184,HB⟩:=hrel
  cases gk with
  |zero => exact absurd HA.out (by simp [spec_l06Known.l0])
  |succ k1 =>
   have H:=HA.out
   clear HA
   simp only [spec_l06Known.l0] at H
   by_cases c7 : x6_1 < (t185.length : Int)
   rotate_left
   ·rw [if_neg c7] at H
    have c7b0:=decide_eq_false c7
    clear c7
    obtain ⟨t190,A13,H⟩:=zJ_ H
    try dsimp only at H
    obtain rfl:=zi_ H
    obtain ⟨Ao14,co14,eo14⟩:=Kd.R_slice HO_5.out
    subst eo14
    have hcz15_0 : wr.cell? ⟨gb184,0,none⟩ = some (.slice A0_0 l0_0.length c0_0):=(zc_ BK184.out 0).trans rfl
    have hfz15_0:=zf_ BK184.out 0
    go_wp2_with (first|((with_reducible refine gate_callee (f:=104) rfl ?_);refine goesL_ (some 23) rfl rfl Tryz.func104 (by kernel_rfl) rfl #[.agg #[.slice A0_0 l0_0.length c0_0]] rfl zq_ ?_;(with_reducible refine (spec_ExprOk.calls k1 _ _ l0_0 t190 _ ?side1 ?side2 A13.out).mono ?_);(case side1 => exact zP_);(case side2 => exact HC0_0.out);rintro e w16 ⟨rfl,hb⟩;refine ⟨_,rfl,?_⟩;have n0_:=zm_ (Kd.R_below zO_ hb);have n1_:=zm_ (blk_below (g:=gb184) (o:=.cells #[.slice A0_0 l0_0.length c0_0] 123 (0,0)) zK_ hb);have n2_:=zm_ (below_step zG_ hb);clear HO_5;clear BK184;clear HB;have HO_5:=n0_;have BK184:=n1_;have HB:=n2_;clear n0_ n1_ n2_;(try clear hb)))
    go_ret
    exact ⟨zE_,zG_⟩


   rw [if_pos c7] at H
   have c7b0:=decide_eq_true c7
   clear c7
   by_cases c8 : 0 ≤ x6_1
   rotate_left
   ·rw [if_neg c8] at H
    cases H
   rw [if_pos c8] at H
   have c8b0:=decide_eq_true c8
   clear c8
   obtain ⟨t189,A9,H⟩:=zJ_ H
   try dsimp only at H
   by_cases c10 : t189 = true
   rotate_left
   ·replace c10:=Bool.eq_false_iff.mpr c10
    subst c10
    rw [zF_] at H
    obtain rfl:=zi_ H
    obtain ⟨Ao12,co12,eo12⟩:=Kd.R_slice HO_5.out
    subst eo12
    have p188 : 0 ≤ (x6_1 : Int):=zo_
    have q188 : x6_1 < (t185.length : Int):=zo_
    obtain ⟨ad188,e188,hx188_0⟩:=Kd.at_string (Kd.R_reads' HO_5.out).2.2 x6_1 p188 q188
    cases e188
    replace p188:=eq_true p188
    replace q188:=eq_true q188
    go_wp2_with (first|((with_reducible refine gate_callee (f:=69) rfl ?_);refine goesL_ (some 20) rfl rfl Tryz.func69 (by kernel_rfl) rfl #[.slice A1 l1.length c1,.string (rdOf ByteArray.empty t185 x6_1)] rfl zq_ ?_;(with_reducible refine (spec_l03In.calls k1 _ _ l1 (rdOf ByteArray.empty t185 x6_1) false _ ?side1 ?side2 A9.out).mono ?_);(case side1 => exact zP_);(case side2 => exact HC1.out);rintro e w' ⟨rfl,⟨nd,rfl⟩⟩;refine ⟨_,rfl,?_⟩))
    go_ret
    exact ⟨zE_,zG_⟩
   subst c10
   rw [if_pos rfl] at H
   have H':=zm_ H
   clear H
   obtain ⟨Ao11,co11,eo11⟩:=Kd.R_slice HO_5.out
   subst eo11
   have p188 : 0 ≤ (x6_1 : Int):=zo_
   have q188 : x6_1 < (t185.length : Int):=zo_
   obtain ⟨ad188,e188,hx188_0⟩:=Kd.at_string (Kd.R_reads' HO_5.out).2.2 x6_1 p188 q188
   cases e188
   replace p188:=eq_true p188
   replace q188:=eq_true q188
   go_wp2_with (first|((with_reducible refine gate_callee (f:=69) rfl ?_);refine goesL_ (some 20) rfl rfl Tryz.func69 (by kernel_rfl) rfl #[.slice A1 l1.length c1,.string (rdOf ByteArray.empty t185 x6_1)] rfl zq_ ?_;(with_reducible refine (spec_l03In.calls k1 _ _ l1 (rdOf ByteArray.empty t185 x6_1) true _ ?side1 ?side2 A9.out).mono ?_);(case side1 => exact zP_);(case side2 => exact HC1.out);rintro e w' ⟨rfl,⟨nd,rfl⟩⟩;refine ⟨_,rfl,?_⟩))
   go_roundg k1
   case measure => have:=HK1.out;omega
   case rel => exact ⟨(wrap64 (x6_1 + 1)),zV_,H',⟨by have:=HK1.out;omega⟩,⟨zO_⟩,⟨zK_⟩,⟨zG_⟩⟩
def spec_l06Args.l0 : Nat → List (S123) → List ByteArray → Int → Option (Bool)
 |0,_,_,_ => none
 |k + 1,x0,x1,x5 => if x5 < (x0.length : Int) then (if 0 ≤ x5 then ((spec_l06Known.f k ((rd_T123 x0 x5).f0) x1).bind fun t192 => (if t192 = true then (spec_l06Args.l0 k x0 x1 (wrap64 (x5 + 1))) else (some false))) else (none)) else (some true)
def spec_l06Args.f (k : Nat) (l0 : List (S123)) (l1 : List ByteArray) : Option (Bool):=spec_l06Args.l0 k l0 l1 0
theorem spec_l06Args.calls (k : Nat) (A0 : Option Addr) (c0 : Nat) (l0 : List (S123)) (A1 : Option Addr) (c1 : Nat) (l1 : List ByteArray) (r : Bool) (w : World) (hr0 : Kd.C k123 w A0 l0.length l0) (hc0 : l0.length ≤ c0) (hr1 : Kd.C Kd.string w A1 l1.length l1) (hc1 : l1.length ≤ c1) (h : spec_l06Args.f k l0 l1 = some r) :
  Calls Tryz.prog 67 #[.slice A0 l0.length c0,.slice A1 l1.length c1] w fun e w' => e = .returned (.bool r) ∧ Below w.heap.size w w':=by
 have hu123:=Tryz.underlying123
 have HR0:=zm_ hr0
 have HC0:=zm_ hc0
 clear hr0 hc0
 have HR1:=zm_ hr1
 have HC1:=zm_ hc1
 clear hr1 hc1
 have HB:=zm_ (Below.refl w.heap.size w)
 have H : (spec_l06Args.l0 k l0 l1 0) = some r:=h
 clear h
 have H':=zm_ H
 clear H
 go_enter Tryz.func67,Tryz.ntmps67
 go_wp2
 go_loopg [5] k (fun kq v5 w' => ∃ (x5_1 : Int),v5 = .int .i64 x5_1 ∧ Aside0 (spec_l06Args.l0 kq l0 l1 x5_1 = some r) ∧ Aside0 (kq ≤ k) ∧ Aside0 (Below w.heap.size w w'))
 case atStart => exact ⟨(0),zV_,H',⟨Nat.le_refl _⟩,⟨zG_⟩⟩
 case round =>
  clear H'
  obtain ⟨x5_1,rfl,HA,HK1,HB⟩:=hrel
  cases gk with
  |zero => exact absurd HA.out (by simp [spec_l06Args.l0])
  |succ k1 =>
   have H:=HA.out
   clear HA
   simp only [spec_l06Args.l0] at H
   by_cases c3 : x5_1 < (l0.length : Int)
   rotate_left
   ·rw [if_neg c3] at H
    have c3b0:=decide_eq_false c3
    clear c3
    obtain rfl:=zi_ H
    go_wp2
    go_ret
    exact ⟨zE_,zG_⟩


   rw [if_pos c3] at H
   have c3b0:=decide_eq_true c3
   clear c3
   by_cases c4 : 0 ≤ x5_1
   rotate_left
   ·rw [if_neg c4] at H
    cases H
   rw [if_pos c4] at H
   have c4b0:=decide_eq_true c4
   clear c4
   obtain ⟨t192,A5,H⟩:=zJ_ H
   try dsimp only at H
   by_cases c6 : t192 = true
   rotate_left
   ·replace c6:=Bool.eq_false_iff.mpr c6
    subst c6
    rw [zF_] at H
    obtain rfl:=zi_ H
    have p191 : 0 ≤ (x5_1 : Int):=zo_
    have q191 : x5_1 < (l0.length : Int):=zo_
    obtain ⟨ad191,A191_0,c191_0,e191,hx191_0,hl191_0,hi191_0⟩:=at_T123 HR0.out x5_1 p191 q191
    cases e191
    replace hx191_0:=(HB.out.cell (zb_ w _ hx191_0)).trans hx191_0
    have HR191_0:=zm_ hi191_0
    have HC191_0:=zm_ hl191_0
    clear hi191_0 hl191_0
    replace p191:=eq_true p191
    replace q191:=eq_true q191
    go_wp2_with (first|((with_reducible refine gate_callee (f:=94) rfl ?_);refine goesL_ (some 17) rfl rfl Tryz.func94 (by kernel_rfl) rfl #[.agg #[.slice A191_0 ((rd_T123 l0 x5_1).f0).length c191_0],.slice A1 l1.length c1] rfl zq_ ?_;(with_reducible refine (spec_l06Known.calls k1 _ _ ((rd_T123 l0 x5_1).f0) _ _ l1 false _ ?side1 ?side2 ?side3 ?side4 A5.out).mono ?_);(case side1 => exact zP_);(case side2 => exact HC191_0.out);(case side3 => exact zP_);(case side4 => exact HC1.out);rintro e w8 ⟨rfl,hb⟩;refine ⟨_,rfl,?_⟩;replace HB:=zm_ (below_step zB_ hb);(try clear hb)))
    go_ret
    exact ⟨zE_,zG_⟩
   subst c6
   rw [if_pos rfl] at H
   have H':=zm_ H
   clear H
   have p191 : 0 ≤ (x5_1 : Int):=zo_
   have q191 : x5_1 < (l0.length : Int):=zo_
   obtain ⟨ad191,A191_0,c191_0,e191,hx191_0,hl191_0,hi191_0⟩:=at_T123 HR0.out x5_1 p191 q191
   cases e191
   replace hx191_0:=(HB.out.cell (zb_ w _ hx191_0)).trans hx191_0
   have HR191_0:=zm_ hi191_0
   have HC191_0:=zm_ hl191_0
   clear hi191_0 hl191_0
   replace p191:=eq_true p191
   replace q191:=eq_true q191
   go_wp2_with (first|((with_reducible refine gate_callee (f:=94) rfl ?_);refine goesL_ (some 17) rfl rfl Tryz.func94 (by kernel_rfl) rfl #[.agg #[.slice A191_0 ((rd_T123 l0 x5_1).f0).length c191_0],.slice A1 l1.length c1] rfl zq_ ?_;(with_reducible refine (spec_l06Known.calls k1 _ _ ((rd_T123 l0 x5_1).f0) _ _ l1 true _ ?side1 ?side2 ?side3 ?side4 A5.out).mono ?_);(case side1 => exact zP_);(case side2 => exact HC191_0.out);(case side3 => exact zP_);(case side4 => exact HC1.out);rintro e w7 ⟨rfl,hb⟩;refine ⟨_,rfl,?_⟩;replace HB:=zm_ (below_step zB_ hb);(try clear hb)))
   go_roundg k1
   case measure => have:=HK1.out;omega
   case rel => exact ⟨(wrap64 (x5_1 + 1)),zV_,H',⟨by have:=HK1.out;omega⟩,⟨zG_⟩⟩
end Go.Proofs.YtkbgmojomgelbaaGreat.MFnExactGrammarOk
