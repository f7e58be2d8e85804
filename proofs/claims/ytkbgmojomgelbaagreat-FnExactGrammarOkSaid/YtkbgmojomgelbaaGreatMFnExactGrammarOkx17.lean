import Derived.Test.YtkbgmojomgelbaaGreatMFnExactGrammarOkx0
import Derived.Test.YtkbgmojomgelbaaGreatMFnExactGrammarOkx12
import Derived.Test.YtkbgmojomgelbaaGreatMFnExactGrammarOkx13
import Derived.Test.YtkbgmojomgelbaaGreatMFnExactGrammarOkx14
import Derived.Test.YtkbgmojomgelbaaGreatMFnExactGrammarOkx16
namespace Go.Proofs.YtkbgmojomgelbaaGreat.MFnExactGrammarOk
open Go.RowKit Go.Proofs.YtkbgmojomgelbaaGreatW.PrintWords Go.Proofs.YtkbgmojomgelbaaGreatW.PrintLast Go.Proofs.YtkbgmojomgelbaaGreatW.PrintMore
attribute [local go_sem] max2_int min2_int max_two min_two max_three min_three max_four min_four
set_option linter.unusedVariables false
set_option linter.unusedSimpArgs false
set_option maxHeartbeats 8000000
set_option maxRecDepth 100000

/-- A call of a function value,by its contract. -/
theorem goesV_ {P : Program} {ops : Array Oper} {Q : Exit → Act → World → Prop} {oi : Oper} {N : Option Tmp} {a : Act} {w : World} {K : Act → World → Prop} {f : FuncId} {fn : Func} {p : Operand} {ars : Array Operand} {ts : Array TypeId} (cap : Array Value) (hf : P.funcs[f]? = some fn) (hname : (fn.name == "runtime.NumGoroutine") = false) (hb : fn.body.isSome = true) (args : Array Value)
  (hw : Region.wanted oi (yielded ops a.tmps) = true) (hN : oi.dst = N) (hop : oi.op = .call { callee:=.value p,args:=ars,argTypes:=ts }) (hv : a.eval p = .func (.func f) #[] cap) (hargs : ars.map a.eval = args)
  (h : Calls P f (args ++ cap) w fun e w' => ∃ v,e = .returned v ∧ K (a.put N v) w') : if Region.wanted oi (yielded ops a.tmps) = true then Oper.wp P oi a w K Q else K (a.put N undef) w:=by
 refine call_ f (args ++ cap) hw hN ?_ h
 have he:=enters_ hf hname hb (args ++ cap) w
 unfold execOp
 simp [hop,resolve,Deferred.ofValue,invoke,hv,hargs,he]
def impl_altOk_1.f (g : List (S49)) (s : ByteArray) : Option Int:=(impl_RuleAt.f g s).bind fun i => if i < 0 then some (-1) else if i < (g.length : Int) then some ((rd_T49 g i).f1.length : Int) else none
theorem impl_altOk_1.calls (g : List (S49)) (s : ByteArray) (r : Int) (gb : Nat) (A0 : Option Addr) (c0 : Nat) (w : World) (hb : w.heap[gb]? = some (.cells #[.slice A0 g.length c0] 29 (0,0))) (hr : Kd.C k49 w A0 g.length g) (hc : g.length ≤ c0) (h : impl_altOk_1.f g s = some r) :
  Calls Tryz.prog 44 #[.string s,.pointer (some ⟨gb,0,none⟩)] w fun e w' => e = .returned (.int .i64 r) ∧ Below w.heap.size w w':=by
 have hu:=Tryz.underlying29
 unfold impl_altOk_1.f at h
 obtain ⟨i,hi,h2⟩:=Option.bind_eq_some_iff.mp h
 have HI:=zm_ hi
 have HR:=zm_ hr
 have HC:=zm_ hc
 have HBK:=zm_ hb
 have hx0:=(zc_ hb 0).trans rfl
 clear h hi hr hc hb
 by_cases c : i < 0
 ·rw [if_pos c] at h2
  obtain rfl:=Option.some.inj h2
  have c1 : decide (i < 0) = true:=decide_eq_true c
  clear c h2
  go_enter Tryz.func44,Tryz.ntmps44
  go_wp2_with (go_at_call 22;(refine (impl_RuleAt.calls _ _ g s i _ HR.out HC.out HI.out).mono ?_);rintro e w' ⟨rfl,hb⟩;have HB:=zm_ hb;clear hb)
  go_ret
  exact ⟨rfl,HB.out⟩
 rw [if_neg c] at h2
 by_cases d : i < (g.length : Int)
 rotate_left
 ·rw [if_neg d] at h2;cases h2
 rw [if_pos d] at h2
 obtain rfl:=Option.some.inj h2
 have c1 : decide (i < 0) = false:=decide_eq_false c
 have p1 : 0 ≤ i:=by omega
 obtain ⟨ad,A1,k1,A2,k2,e,hx1,hx2,hx3,hl1,hk1,hl2,hk2⟩:=at_T49 HR.out i p1 d
 have c2:=eq_true p1
 have c3:=eq_true d
 clear c d h2 p1
 cases e
 go_enter Tryz.func44,Tryz.ntmps44
 go_wp2_with (go_at_call 22;(refine (impl_RuleAt.calls _ _ g s i _ HR.out HC.out HI.out).mono ?_);rintro e w' ⟨rfl,hb⟩;have HB:=zm_ hb;have hy0:=(zc_ (blk_below HBK.out hb) 0).trans rfl;have hy2:=(hb.cell (zb_ w _ hx2)).trans hx2;clear hb)
 go_ret
 exact ⟨rfl,HB.out⟩
def impl_symOk.j0 (g_ : List (S49)) : Nat → List ByteArray → Bool → Int → ByteArray → List (S123) → ByteArray → Option (Bool)
 |0,_,_,_,_,_,_ => none
 |k + 1,x1,x7,x423000,x423001,x423002,x423003 => if x423000 = 1 then (if x7 = true then ((impl_textOk.f k x423001).bind fun t423 => (some t423)) else (some false)) else (if x423000 = 2 then (if x7 = true then ((impl_SetOk.f k x423001).bind fun t424 => (some t424)) else (some false)) else (if x423000 = 3 then ((impl_altOk_1.f g_ x423001).bind fun t425 => (if t425 = (x423002.length : Int) then ((impl_argsKnown.f k x423002 x1).bind fun t426 => (if t426 = true then ((impl_bindOk.f k x423003 x1).bind fun t427 => (some t427)) else (some false))) else (some false))) else (if x423000 = 4 then (if x423001.toList = ([] : List UInt8) then (if x423003.toList = ([] : List UInt8) then (if (x423002.length : Int) = 1 then ((impl_argsKnown.f k x423002 x1).bind fun t428 => (some t428)) else (some false)) else (some false)) else (some false)) else (some false))))
def impl_symOk.f (g_ : List (S49)) (k : Nat) (a0_0 : Int) (a0_1 : ByteArray) (l0_2 : List (S123)) (a0_3 : ByteArray) (l1 : List ByteArray) (a2 : Int) : Option (Bool):=if (l0_2.length : Int) = 0 then (impl_symOk.j0 g_ k l1 (a0_3.toList == ([] : List UInt8)) a0_0 a0_1 l0_2 a0_3) else (impl_symOk.j0 g_ k l1 false a0_0 a0_1 l0_2 a0_3)
def impl_symOk.T8 : Bool × List (List Nat × List Nat):=(true,[([],[]),([],[]),([1],[1]),([0,2],[0,2]),([],[]),([4],[4]),([5],[5]),([3,6],[3,6]),([7,3],[7]),([8],[8]),([9,8],[8,9]),([8],[8]),([10,11,8,8],[8,10,11]),([8,12],[8,12]),([13,12],[13]),([14],[14]),([15,14],[14,15]),([14],[14]),([16,17,14,14],[14,16,17]),([14,18],[14,18]),([19,18,0,1,2,3,4,5,6,7,8,9,10,11,12,13,14,15,16,17,18,19],[19])])
def impl_symOk.B8 : List Nat:=[0,0,2,7,0,16,48,127,255,511,1023,511,4095,8191,16383,32767,65535,32767,262143,524287,1048575]
theorem impl_symOk.tab8 : rtab .any (opsOf Tryz.f45 8) = impl_symOk.T8:=by kernel_rfl
theorem impl_symOk.bits8 : waitsOk impl_symOk.T8.2 impl_symOk.B8 = true:=by kernel_rfl
theorem impl_symOk.calls (g_ : List (S49)) (k : Nat) (a0_0 : Int) (a0_1 : ByteArray) (A0_2 : Option Addr) (c0_2 : Nat) (l0_2 : List (S123)) (a0_3 : ByteArray) (A1 : Option Addr) (c1 : Nat) (l1 : List ByteArray) (a2 : Int) (r : Bool) (w : World) (hr0_2 : Kd.C k123 w A0_2 l0_2.length l0_2) (hc0_2 : l0_2.length ≤ c0_2) (hr1 : Kd.C Kd.string w A1 l1.length l1) (hc1 : l1.length ≤ c1) (h : impl_symOk.f g_ k a0_0 a0_1 l0_2 a0_3 l1 a2 = some r) {gb_ : Nat} {Ag_ : Option Addr} {cg_ : Nat} (hgb_ : w.heap[gb_]? = some (.cells #[.slice Ag_ g_.length cg_] 29 (0,0))) (hgr_ : Kd.C k49 w Ag_ g_.length g_) (hgc_ : g_.length ≤ cg_) :
  Calls Tryz.prog 45 #[.agg #[.int .i64 a0_0,.string a0_1,.slice A0_2 l0_2.length c0_2,.string a0_3],.slice A1 l1.length c1,.func (.func 44) #[] #[.pointer (some ⟨gb_,0,none⟩)]] w fun e w' => e = .returned (.bool r) ∧ Below w.heap.size w w':=by
 have hu76:=Tryz.underlying76
 have HR0_2:=zm_ hr0_2
 have HC0_2:=zm_ hc0_2
 clear hr0_2 hc0_2
 have HGB:=zm_ hgb_
 have HGR:=zm_ hgr_
 have HGC:=zm_ hgc_
 clear hgb_ hgr_ hgc_
 have HR1:=zm_ hr1
 have HC1:=zm_ hc1
 clear hr1 hc1
 have HB:=zm_ (Below.refl w.heap.size w)
 have H : (if (l0_2.length : Int) = 0 then (impl_symOk.j0 g_ k l1 (a0_3.toList == ([] : List UInt8)) a0_0 a0_1 l0_2 a0_3) else (impl_symOk.j0 g_ k l1 false a0_0 a0_1 l0_2 a0_3)) = some r:=h
 clear h
 have HC4:=zm_ H
 clear H
 go_enter Tryz.func45,Tryz.ntmps45
 go_upto_region 1 with (first|((with_reducible refine gate_dst (N:=3) rfl ?_);(try (refine gate_guard (by rfl) ?_;dsimp only));refine box_event ?hg (N:=3) ?hd (cs:=#[.int .i64 a0_0,.string a0_1,.slice A0_2 l0_2.length c0_2,.string a0_3]) (t:=76) ?hr ?_;(case hd => rfl);(case hg => rfl);(case hr => first|(go_simp;done)|(go_simp;rfl));intro gb422 hg w5 hbox hb;have n0_:=zm_ (below_step zB_ hb);have n1_:=zm_ (hbox);have n2_:=zm_ ((by rw [hg];exact (below_size zB_) : w.heap.size ≤ gb422));have n3_:=zm_ ((by rw [hg];exact (below_size zB_) : w.heap.size ≤ gb422));clear HB;have HB:=n0_;have BK422:=n1_;have GW422:=n2_;have GE422:=n3_;clear n0_ n1_ n2_ n3_;clear hb hbox hg))
 (try simp only [Act.put,List.setIfInBounds_toArray,List.set_cons_zero,List.set_cons_succ])
 go_cut [7] (fun v7 wc => ∃ (kq : Nat) (x7_3 : Bool),v7 = .bool x7_3 ∧ Aside0 (impl_symOk.j0 g_ kq l1 x7_3 a0_0 a0_1 l0_2 a0_3 = some r) ∧ Aside0 (kq ≤ k) ∧ Aside0 (wc.heap[gb422]? = some (.cells #[.int .i64 a0_0,.string a0_1,(.slice A0_2 l0_2.length c0_2),.string a0_3] 76 (0,0))) ∧ Aside0 (Below w.heap.size w wc))
 case first =>
  have H:=HC4.out
  clear HC4
  by_cases c6 : (l0_2.length : Int) = 0
  ·rw [if_pos c6] at H
   have c6b0 : ((l0_2.length : Int) == 0) = true:=beq_iff_eq.mpr c6
   have c6b1 : ((l0_2.length : Int) != 0) = false:=bne_eq_false_iff_eq.mpr c6
   clear c6
   (first|rw [c6b0]|(simp only [i64_w,i32_w];rw [c6b0])|skip)
   have H':=zm_ H
   clear H
   have hcz7_0 : w5.cell? ⟨gb422,0,none⟩ = some (.int .i64 a0_0):=(zc_ BK422.out 0).trans rfl
   have hcz7_1 : w5.cell? ⟨gb422,1,none⟩ = some (.string a0_1):=(zc_ BK422.out 1).trans rfl
   have hcz7_2 : w5.cell? ⟨gb422,2,none⟩ = some (.slice A0_2 l0_2.length c0_2):=(zc_ BK422.out 2).trans rfl
   have hcz7_3 : w5.cell? ⟨gb422,3,none⟩ = some (.string a0_3):=(zc_ BK422.out 3).trans rfl
   have hfz7_0:=zf_ BK422.out 0
   have hfz7_1:=zf_ BK422.out 1
   have hfz7_2:=zf_ BK422.out 2
   have hfz7_3:=zf_ BK422.out 3
   go_wp2
   go_meet
   case rel => exact ⟨_,((a0_3.toList == ([] : List UInt8))),zV_,H',⟨by first|omega|exact Nat.le_refl _⟩,⟨zK_⟩,⟨zG_⟩⟩
  rw [if_neg c6] at H
  have c6b0 : ((l0_2.length : Int) == 0) = false:=beq_eq_false_iff_ne.mpr c6
  have c6b1 : ((l0_2.length : Int) != 0) = true:=bne_iff_ne.mpr c6
  have c6b2 : ¬ (l0_2 = []):=fun h_ => c6 (by rw [h_];rfl)
  (first|rw [c6b0]|(simp only [i64_w,i32_w];rw [c6b0])|skip)
  have H':=zm_ H
  clear H
  have hcz8_0 : w5.cell? ⟨gb422,0,none⟩ = some (.int .i64 a0_0):=(zc_ BK422.out 0).trans rfl
  have hcz8_1 : w5.cell? ⟨gb422,1,none⟩ = some (.string a0_1):=(zc_ BK422.out 1).trans rfl
  have hcz8_2 : w5.cell? ⟨gb422,2,none⟩ = some (.slice A0_2 l0_2.length c0_2):=(zc_ BK422.out 2).trans rfl
  have hcz8_3 : w5.cell? ⟨gb422,3,none⟩ = some (.string a0_3):=(zc_ BK422.out 3).trans rfl
  have hfz8_0:=zf_ BK422.out 0
  have hfz8_1:=zf_ BK422.out 1
  have hfz8_2:=zf_ BK422.out 2
  have hfz8_3:=zf_ BK422.out 3
  go_wp2
  go_meet
  case rel => exact ⟨_,(false),zV_,H',⟨by first|omega|exact Nat.le_refl _⟩,⟨zK_⟩,⟨zG_⟩⟩
 case rest =>
  clear HC4
  obtain ⟨kq,x7_3,rfl,HA,HJ3,BK422,HB⟩:=hcut
  cases kq with
  |zero => exact absurd HA.out (by simp [impl_symOk.j0])
  |succ kj3 =>
   have H:=HA.out
   clear HA
   simp only [impl_symOk.j0] at H
   by_cases c9 : a0_0 = 1
   ·rw [if_pos c9] at H
    have c9b0 : (a0_0 == 1) = true:=beq_iff_eq.mpr c9
    have c9b1 : (a0_0 != 1) = false:=bne_eq_false_iff_eq.mpr c9
    clear c9
    by_cases c10 : x7_3 = true
    rotate_left
    ·replace c10:=Bool.eq_false_iff.mpr c10
     subst c10
     rw [zF_] at H
     obtain rfl:=zi_ H
     have hcz13_0 : wc.cell? ⟨gb422,0,none⟩ = some (.int .i64 a0_0):=(zc_ BK422.out 0).trans rfl
     have hcz13_1 : wc.cell? ⟨gb422,1,none⟩ = some (.string a0_1):=(zc_ BK422.out 1).trans rfl
     have hcz13_2 : wc.cell? ⟨gb422,2,none⟩ = some (.slice A0_2 l0_2.length c0_2):=(zc_ BK422.out 2).trans rfl
     have hcz13_3 : wc.cell? ⟨gb422,3,none⟩ = some (.string a0_3):=(zc_ BK422.out 3).trans rfl
     have hfz13_0:=zf_ BK422.out 0
     have hfz13_1:=zf_ BK422.out 1
     have hfz13_2:=zf_ BK422.out 2
     have hfz13_3:=zf_ BK422.out 3
     go_wp2
     go_ret
     exact ⟨zE_,zG_⟩
    subst c10
    rw [if_pos rfl] at H
    obtain ⟨t423,A11,H⟩:=zJ_ H
    try dsimp only at H
    obtain rfl:=zi_ H
    have hcz12_0 : wc.cell? ⟨gb422,0,none⟩ = some (.int .i64 a0_0):=(zc_ BK422.out 0).trans rfl
    have hcz12_1 : wc.cell? ⟨gb422,1,none⟩ = some (.string a0_1):=(zc_ BK422.out 1).trans rfl
    have hcz12_2 : wc.cell? ⟨gb422,2,none⟩ = some (.slice A0_2 l0_2.length c0_2):=(zc_ BK422.out 2).trans rfl
    have hcz12_3 : wc.cell? ⟨gb422,3,none⟩ = some (.string a0_3):=(zc_ BK422.out 3).trans rfl
    have hfz12_0:=zf_ BK422.out 0
    have hfz12_1:=zf_ BK422.out 1
    have hfz12_2:=zf_ BK422.out 2
    have hfz12_3:=zf_ BK422.out 3
    go_wp2_with (first|(go_at_call 73;(with_reducible refine (impl_textOk.calls kj3 a0_1 t423 _ A11.out).mono ?_);rintro e w' ⟨rfl,⟨nd,rfl⟩⟩))
    go_ret
    exact ⟨zE_,zG_⟩
   rw [if_neg c9] at H
   have c9b0 : (a0_0 == 1) = false:=beq_eq_false_iff_ne.mpr c9
   have c9b1 : (a0_0 != 1) = true:=bne_iff_ne.mpr c9
   by_cases c14 : a0_0 = 2
   ·rw [if_pos c14] at H
    have c14b0 : (a0_0 == 2) = true:=beq_iff_eq.mpr c14
    have c14b1 : (a0_0 != 2) = false:=bne_eq_false_iff_eq.mpr c14
    clear c14
    by_cases c15 : x7_3 = true
    rotate_left
    ·replace c15:=Bool.eq_false_iff.mpr c15
     subst c15
     rw [zF_] at H
     obtain rfl:=zi_ H
     have hcz19_0 : wc.cell? ⟨gb422,0,none⟩ = some (.int .i64 a0_0):=(zc_ BK422.out 0).trans rfl
     have hcz19_1 : wc.cell? ⟨gb422,1,none⟩ = some (.string a0_1):=(zc_ BK422.out 1).trans rfl
     have hcz19_2 : wc.cell? ⟨gb422,2,none⟩ = some (.slice A0_2 l0_2.length c0_2):=(zc_ BK422.out 2).trans rfl
     have hcz19_3 : wc.cell? ⟨gb422,3,none⟩ = some (.string a0_3):=(zc_ BK422.out 3).trans rfl
     have hfz19_0:=zf_ BK422.out 0
     have hfz19_1:=zf_ BK422.out 1
     have hfz19_2:=zf_ BK422.out 2
     have hfz19_3:=zf_ BK422.out 3
     go_wp2
     go_ret
     exact ⟨zE_,zG_⟩
    subst c15
    rw [if_pos rfl] at H
    obtain ⟨t424,A16,H⟩:=zJ_ H
    try dsimp only at H
    obtain rfl:=zi_ H
    have hcz17_0 : wc.cell? ⟨gb422,0,none⟩ = some (.int .i64 a0_0):=(zc_ BK422.out 0).trans rfl
    have hcz17_1 : wc.cell? ⟨gb422,1,none⟩ = some (.string a0_1):=(zc_ BK422.out 1).trans rfl
    have hcz17_2 : wc.cell? ⟨gb422,2,none⟩ = some (.slice A0_2 l0_2.length c0_2):=(zc_ BK422.out 2).trans rfl
    have hcz17_3 : wc.cell? ⟨gb422,3,none⟩ = some (.string a0_3):=(zc_ BK422.out 3).trans rfl
    have hfz17_0:=zf_ BK422.out 0
    have hfz17_1:=zf_ BK422.out 1
    have hfz17_2:=zf_ BK422.out 2
    have hfz17_3:=zf_ BK422.out 3
    go_wp2_with (first|(go_at_call 74;(with_reducible refine (impl_SetOk.calls kj3 a0_1 t424 _ A16.out).mono ?_);rintro e w18 ⟨rfl,hb⟩;have n0_:=zm_ (blk_below (g:=gb422) (o:=.cells #[.int .i64 a0_0,.string a0_1,.slice A0_2 l0_2.length c0_2,.string a0_3] 76 (0,0)) zK_ hb);have n1_:=zm_ (below_step zG_ hb);clear BK422;clear HB;have BK422:=n0_;have HB:=n1_;clear n0_ n1_;(try clear hb)))
    go_ret
    exact ⟨zE_,zG_⟩
   rw [if_neg c14] at H
   have c14b0 : (a0_0 == 2) = false:=beq_eq_false_iff_ne.mpr c14
   have c14b1 : (a0_0 != 2) = true:=bne_iff_ne.mpr c14
   by_cases c20 : a0_0 = 3
   rotate_left
   ·rw [if_neg c20] at H
    have c20b0 : (a0_0 == 3) = false:=beq_eq_false_iff_ne.mpr c20
    have c20b1 : (a0_0 != 3) = true:=bne_iff_ne.mpr c20
    by_cases c37 : a0_0 = 4
    rotate_left
    ·rw [if_neg c37] at H
     have c37b0 : (a0_0 == 4) = false:=beq_eq_false_iff_ne.mpr c37
     have c37b1 : (a0_0 != 4) = true:=bne_iff_ne.mpr c37
     obtain rfl:=zi_ H
     have hcz47_0 : wc.cell? ⟨gb422,0,none⟩ = some (.int .i64 a0_0):=(zc_ BK422.out 0).trans rfl
     have hcz47_1 : wc.cell? ⟨gb422,1,none⟩ = some (.string a0_1):=(zc_ BK422.out 1).trans rfl
     have hcz47_2 : wc.cell? ⟨gb422,2,none⟩ = some (.slice A0_2 l0_2.length c0_2):=(zc_ BK422.out 2).trans rfl
     have hcz47_3 : wc.cell? ⟨gb422,3,none⟩ = some (.string a0_3):=(zc_ BK422.out 3).trans rfl
     have hfz47_0:=zf_ BK422.out 0
     have hfz47_1:=zf_ BK422.out 1
     have hfz47_2:=zf_ BK422.out 2
     have hfz47_3:=zf_ BK422.out 3
     go_wp2
     go_ret
     exact ⟨zE_,zG_⟩


    rw [if_pos c37] at H
    have c37b0 : (a0_0 == 4) = true:=beq_iff_eq.mpr c37
    have c37b1 : (a0_0 != 4) = false:=bne_eq_false_iff_eq.mpr c37
    clear c37
    by_cases c38 : a0_1.toList = ([] : List UInt8)
    rotate_left
    ·rw [if_neg c38] at H
     have c38b0 : (a0_1.toList == ([] : List UInt8)) = false:=beq_eq_false_iff_ne.mpr c38
     have c38b1 : (a0_1.toList != ([] : List UInt8)) = true:=bne_iff_ne.mpr c38
     obtain rfl:=zi_ H
     have hcz46_0 : wc.cell? ⟨gb422,0,none⟩ = some (.int .i64 a0_0):=(zc_ BK422.out 0).trans rfl
     have hcz46_1 : wc.cell? ⟨gb422,1,none⟩ = some (.string a0_1):=(zc_ BK422.out 1).trans rfl
     have hcz46_2 : wc.cell? ⟨gb422,2,none⟩ = some (.slice A0_2 l0_2.length c0_2):=(zc_ BK422.out 2).trans rfl
     have hcz46_3 : wc.cell? ⟨gb422,3,none⟩ = some (.string a0_3):=(zc_ BK422.out 3).trans rfl
     have hfz46_0:=zf_ BK422.out 0
     have hfz46_1:=zf_ BK422.out 1
     have hfz46_2:=zf_ BK422.out 2
     have hfz46_3:=zf_ BK422.out 3
     go_wp2
     go_ret
     exact ⟨zE_,zG_⟩
    rw [if_pos c38] at H
    have c38b0 : (a0_1.toList == ([] : List UInt8)) = true:=beq_iff_eq.mpr c38
    have c38b1 : (a0_1.toList != ([] : List UInt8)) = false:=bne_eq_false_iff_eq.mpr c38
    clear c38
    by_cases c39 : a0_3.toList = ([] : List UInt8)
    rotate_left
    ·rw [if_neg c39] at H
     have c39b0 : (a0_3.toList == ([] : List UInt8)) = false:=beq_eq_false_iff_ne.mpr c39
     have c39b1 : (a0_3.toList != ([] : List UInt8)) = true:=bne_iff_ne.mpr c39
     obtain rfl:=zi_ H
     have hcz45_0 : wc.cell? ⟨gb422,0,none⟩ = some (.int .i64 a0_0):=(zc_ BK422.out 0).trans rfl
     have hcz45_1 : wc.cell? ⟨gb422,1,none⟩ = some (.string a0_1):=(zc_ BK422.out 1).trans rfl
     have hcz45_2 : wc.cell? ⟨gb422,2,none⟩ = some (.slice A0_2 l0_2.length c0_2):=(zc_ BK422.out 2).trans rfl
     have hcz45_3 : wc.cell? ⟨gb422,3,none⟩ = some (.string a0_3):=(zc_ BK422.out 3).trans rfl
     have hfz45_0:=zf_ BK422.out 0
     have hfz45_1:=zf_ BK422.out 1
     have hfz45_2:=zf_ BK422.out 2
     have hfz45_3:=zf_ BK422.out 3
     go_wp2
     go_ret
     exact ⟨zE_,zG_⟩
    rw [if_pos c39] at H
    have c39b0 : (a0_3.toList == ([] : List UInt8)) = true:=beq_iff_eq.mpr c39
    have c39b1 : (a0_3.toList != ([] : List UInt8)) = false:=bne_eq_false_iff_eq.mpr c39
    clear c39
    by_cases c40 : (l0_2.length : Int) = 1
    rotate_left
    ·rw [if_neg c40] at H
     have c40b0 : ((l0_2.length : Int) == 1) = false:=beq_eq_false_iff_ne.mpr c40
     have c40b1 : ((l0_2.length : Int) != 1) = true:=bne_iff_ne.mpr c40
     obtain rfl:=zi_ H
     have hcz44_0 : wc.cell? ⟨gb422,0,none⟩ = some (.int .i64 a0_0):=(zc_ BK422.out 0).trans rfl
     have hcz44_1 : wc.cell? ⟨gb422,1,none⟩ = some (.string a0_1):=(zc_ BK422.out 1).trans rfl
     have hcz44_2 : wc.cell? ⟨gb422,2,none⟩ = some (.slice A0_2 l0_2.length c0_2):=(zc_ BK422.out 2).trans rfl
     have hcz44_3 : wc.cell? ⟨gb422,3,none⟩ = some (.string a0_3):=(zc_ BK422.out 3).trans rfl
     have hfz44_0:=zf_ BK422.out 0
     have hfz44_1:=zf_ BK422.out 1
     have hfz44_2:=zf_ BK422.out 2
     have hfz44_3:=zf_ BK422.out 3
     go_wp2
     go_ret
     exact ⟨zE_,zG_⟩
    rw [if_pos c40] at H
    have c40b0 : ((l0_2.length : Int) == 1) = true:=beq_iff_eq.mpr c40
    have c40b1 : ((l0_2.length : Int) != 1) = false:=bne_eq_false_iff_eq.mpr c40
    clear c40
    obtain ⟨t428,A41,H⟩:=zJ_ H
    try dsimp only at H
    obtain rfl:=zi_ H
    have hcz42_0 : wc.cell? ⟨gb422,0,none⟩ = some (.int .i64 a0_0):=(zc_ BK422.out 0).trans rfl
    have hcz42_1 : wc.cell? ⟨gb422,1,none⟩ = some (.string a0_1):=(zc_ BK422.out 1).trans rfl
    have hcz42_2 : wc.cell? ⟨gb422,2,none⟩ = some (.slice A0_2 l0_2.length c0_2):=(zc_ BK422.out 2).trans rfl
    have hcz42_3 : wc.cell? ⟨gb422,3,none⟩ = some (.string a0_3):=(zc_ BK422.out 3).trans rfl
    have hfz42_0:=zf_ BK422.out 0
    have hfz42_1:=zf_ BK422.out 1
    have hfz42_2:=zf_ BK422.out 2
    have hfz42_3:=zf_ BK422.out 3
    go_wp2_with (first|(go_at_call 75;(with_reducible refine (impl_argsKnown.calls kj3 _ _ l0_2 _ _ l1 t428 _ ?side1 ?side2 ?side3 ?side4 A41.out).mono ?_);(case side1 => exact zP_);(case side2 => exact HC0_2.out);(case side3 => exact zP_);(case side4 => exact HC1.out);rintro e w43 ⟨rfl,hb⟩;have n0_:=zm_ (blk_below (g:=gb422) (o:=.cells #[.int .i64 a0_0,.string a0_1,.slice A0_2 l0_2.length c0_2,.string a0_3] 76 (0,0)) zK_ hb);have n1_:=zm_ (below_step zG_ hb);clear BK422;clear HB;have BK422:=n0_;have HB:=n1_;clear n0_ n1_;(try clear hb)))
    go_ret
    exact ⟨zE_,zG_⟩
   rw [if_pos c20] at H
   have c20b0 : (a0_0 == 3) = true:=beq_iff_eq.mpr c20
   have c20b1 : (a0_0 != 3) = false:=bne_eq_false_iff_eq.mpr c20
   clear c20
   obtain ⟨t425,A21,H⟩:=zJ_ H
   try dsimp only at H
   by_cases c22 : t425 = (l0_2.length : Int)
   rotate_left
   ·rw [if_neg c22] at H
    have c22b0 : (t425 == (l0_2.length : Int)) = false:=beq_eq_false_iff_ne.mpr c22
    have c22b1 : (t425 != (l0_2.length : Int)) = true:=bne_iff_ne.mpr c22
    obtain rfl:=zi_ H
    have hcz34_0 : wc.cell? ⟨gb422,0,none⟩ = some (.int .i64 a0_0):=(zc_ BK422.out 0).trans rfl
    have hcz34_1 : wc.cell? ⟨gb422,1,none⟩ = some (.string a0_1):=(zc_ BK422.out 1).trans rfl
    have hcz34_2 : wc.cell? ⟨gb422,2,none⟩ = some (.slice A0_2 l0_2.length c0_2):=(zc_ BK422.out 2).trans rfl
    have hcz34_3 : wc.cell? ⟨gb422,3,none⟩ = some (.string a0_3):=(zc_ BK422.out 3).trans rfl
    have hfz34_0:=zf_ BK422.out 0
    have hfz34_1:=zf_ BK422.out 1
    have hfz34_2:=zf_ BK422.out 2
    have hfz34_3:=zf_ BK422.out 3
    try go_wp2
    have n0_:=zm_ (zr_ BK422.out)
    have n1_:=zm_ (zd_ HB.out)
    clear BK422
    clear HB
    have BK422:=n0_
    have HB:=n1_
    clear n0_ n1_
    refine start_ (n:=21) (S:=fun w' => w'.cell? ⟨gb422,0,none⟩ = some (.int .i64 a0_0) ∧ w'.cell? ⟨gb422,1,none⟩ = some (.string a0_1) ∧ w'.cell? ⟨gb422,2,none⟩ = some (.slice A0_2 l0_2.length c0_2) ∧ w'.cell? ⟨gb422,3,none⟩ = some (.string a0_3)) (ds:=[]) #[false,false,false,false,false,false,false,false,false,false,false,false,false,false,false,false,false,false,false,false,false] (by kernel_rfl) rfl rfl ⟨(zc_ BK422.out 0).trans rfl,(zc_ BK422.out 1).trans rfl,(zc_ BK422.out 2).trans rfl,(zc_ BK422.out 3).trans rfl⟩ (fun hHeld => ?_);refine with_tabW impl_symOk.tab8 impl_symOk.bits8 (fun HT_ HW_ => ?_)
    generalize wc.drew = w35 at BK422 HB hHeld ⊢
    refine zp_ 0 (some 37) ?_
    refine zp_ 1 (some 38) ?_
    refine zp_ 4 (some 41) ?_
    refine zk2_ 2 (some 39) ?_
    refine zk2_ 5 (some 42) ?_
    refine zp_ 6 (some 43) ?_
    refine one_ (i:=3) (N:=some 40) #[true,true,true,true,true,true,true,false,false,false,false,false,false,false,false,false,false,false,false,false,false] rfl rfl (one_of HT_.out (by kernel_rfl)) (by decide) (fun K hK => ?_)
    refine goesV_ #[.pointer (some ⟨gb_,0,none⟩)] Tryz.func44 (by kernel_rfl) rfl #[.string a0_1] (by rfl) rfl rfl (by rfl) zq_ ?_
    show Calls _ _ #[.string a0_1,.pointer (some ⟨gb_,0,none⟩)] _ _
    with_reducible refine (impl_altOk_1.calls g_ a0_1 t425 gb_ Ag_ cg_ _ (blk_below HGB.out zB_) (Kd.C_below HGR.out zB_) HGC.out A21.out).mono ?_
    rintro e w36 ⟨rfl,hb⟩
    refine ⟨_,rfl,?_⟩
    have n0_:=zm_ (blk_below (g:=gb422) (o:=.cells #[.int .i64 a0_0,.string a0_1,.slice A0_2 l0_2.length c0_2,.string a0_3] 76 (0,0)) zK_ hb)
    have n1_:=zm_ (below_step zG_ hb)
    clear BK422
    clear HB
    have BK422:=n0_
    have HB:=n1_
    clear n0_ n1_
    (try clear hb)
    (try clear hb2)
    (try clear hk)
    (try clear hi)
    refine hK.out _ _ ⟨(zc_ BK422.out 0).trans rfl,(zc_ BK422.out 1).trans rfl,(zc_ BK422.out 2).trans rfl,(zc_ BK422.out 3).trans rfl⟩ (fun hHeld => ?_)
    clear hK K
    refine zm2_ ?_
    refine zp_ 7 (some 44) ?_
    refine zp_ 8 (some 45) ?_
    refine pure_ (i:=9) (N:=some 46) (v:=undef) (a':=?_) #[true,true,true,true,true,true,true,true,true,true,false,false,false,false,false,false,false,false,false,false,false] rfl rfl (any_of HT_.out (by kernel_rfl)) (fun _ _ _ h => h) (Or.inr ⟨by rfl,rfl⟩) ?_ ?_
    rotate_left
    ·simp only [Act.put,List.setIfInBounds_toArray,List.set_cons_zero,List.set_cons_succ,i64_w,i32_w,IntKind.wrap_u8]
     rfl
    refine pure_ (i:=10) (N:=some 47) (v:=undef) (a':=?_) #[true,true,true,true,true,true,true,true,true,true,true,false,false,false,false,false,false,false,false,false,false] rfl rfl (any_of HT_.out (by kernel_rfl)) (fun _ _ _ h => h) (Or.inr ⟨by rfl,rfl⟩) ?_ ?_
    rotate_left
    ·simp only [Act.put,List.setIfInBounds_toArray,List.set_cons_zero,List.set_cons_succ,i64_w,i32_w,IntKind.wrap_u8]
     rfl
    refine pure_ (i:=11) (N:=some 48) (v:=undef) (a':=?_) #[true,true,true,true,true,true,true,true,true,true,true,true,false,false,false,false,false,false,false,false,false] rfl rfl (any_of HT_.out (by kernel_rfl)) (fun _ _ _ h => h) (Or.inr ⟨by rfl,rfl⟩) ?_ ?_
    rotate_left
    ·simp only [Act.put,List.setIfInBounds_toArray,List.set_cons_zero,List.set_cons_succ,i64_w,i32_w,IntKind.wrap_u8]
     rfl
    refine pure_ (i:=12) (N:=some 49) (v:=undef) (a':=?_) #[true,true,true,true,true,true,true,true,true,true,true,true,true,false,false,false,false,false,false,false,false] rfl rfl (any_of HT_.out (by kernel_rfl)) (fun _ _ _ h => h) (Or.inr ⟨by rfl,rfl⟩) ?_ ?_
    rotate_left
    ·simp only [Act.put,List.setIfInBounds_toArray,List.set_cons_zero,List.set_cons_succ,i64_w,i32_w,IntKind.wrap_u8]
     rfl
    refine zp_ 13 (some 50) ?_
    refine zp_ 14 (some 51) ?_
    refine pure_ (i:=15) (N:=some 52) (v:=undef) (a':=?_) #[true,true,true,true,true,true,true,true,true,true,true,true,true,true,true,true,false,false,false,false,false] rfl rfl (any_of HT_.out (by kernel_rfl)) (fun _ _ _ h => h) (Or.inr ⟨by rfl,rfl⟩) ?_ ?_
    rotate_left
    ·simp only [Act.put,List.setIfInBounds_toArray,List.set_cons_zero,List.set_cons_succ,i64_w,i32_w,IntKind.wrap_u8]
     rfl
    refine pure_ (i:=16) (N:=some 53) (v:=undef) (a':=?_) #[true,true,true,true,true,true,true,true,true,true,true,true,true,true,true,true,true,false,false,false,false] rfl rfl (any_of HT_.out (by kernel_rfl)) (fun _ _ _ h => h) (Or.inr ⟨by rfl,rfl⟩) ?_ ?_
    rotate_left
    ·simp only [Act.put,List.setIfInBounds_toArray,List.set_cons_zero,List.set_cons_succ,i64_w,i32_w,IntKind.wrap_u8]
     rfl
    refine pure_ (i:=17) (N:=some 54) (v:=undef) (a':=?_) #[true,true,true,true,true,true,true,true,true,true,true,true,true,true,true,true,true,true,false,false,false] rfl rfl (any_of HT_.out (by kernel_rfl)) (fun _ _ _ h => h) (Or.inr ⟨by rfl,rfl⟩) ?_ ?_
    rotate_left
    ·simp only [Act.put,List.setIfInBounds_toArray,List.set_cons_zero,List.set_cons_succ,i64_w,i32_w,IntKind.wrap_u8]
     rfl
    refine pure_ (i:=18) (N:=some 55) (v:=undef) (a':=?_) #[true,true,true,true,true,true,true,true,true,true,true,true,true,true,true,true,true,true,true,false,false] rfl rfl (any_of HT_.out (by kernel_rfl)) (fun _ _ _ h => h) (Or.inr ⟨by rfl,rfl⟩) ?_ ?_
    rotate_left
    ·simp only [Act.put,List.setIfInBounds_toArray,List.set_cons_zero,List.set_cons_succ,i64_w,i32_w,IntKind.wrap_u8]
     rfl
    refine zp_ 19 (some 56) ?_
    refine zp_ 20 (some 6) ?_
    refine done_ (done_of HT_.out (by kernel_rfl)) ?_
    try go_wp2
    go_ret
    exact ⟨zE_,zG_⟩
   rw [if_pos c22] at H
   have c22b0 : (t425 == (l0_2.length : Int)) = true:=beq_iff_eq.mpr c22
   have c22b1 : (t425 != (l0_2.length : Int)) = false:=bne_eq_false_iff_eq.mpr c22
   clear c22
   obtain ⟨t426,A23,H⟩:=zJ_ H
   try dsimp only at H
   by_cases c24 : t426 = true
   ·subst c24
    rw [if_pos rfl] at H
    obtain ⟨t427,A25,H⟩:=zJ_ H
    try dsimp only at H
    obtain rfl:=zi_ H
    have hcz26_0 : wc.cell? ⟨gb422,0,none⟩ = some (.int .i64 a0_0):=(zc_ BK422.out 0).trans rfl
    have hcz26_1 : wc.cell? ⟨gb422,1,none⟩ = some (.string a0_1):=(zc_ BK422.out 1).trans rfl
    have hcz26_2 : wc.cell? ⟨gb422,2,none⟩ = some (.slice A0_2 l0_2.length c0_2):=(zc_ BK422.out 2).trans rfl
    have hcz26_3 : wc.cell? ⟨gb422,3,none⟩ = some (.string a0_3):=(zc_ BK422.out 3).trans rfl
    have hfz26_0:=zf_ BK422.out 0
    have hfz26_1:=zf_ BK422.out 1
    have hfz26_2:=zf_ BK422.out 2
    have hfz26_3:=zf_ BK422.out 3
    try go_wp2
    have n0_:=zm_ (zr_ BK422.out)
    have n1_:=zm_ (zd_ HB.out)
    clear BK422
    clear HB
    have BK422:=n0_
    have HB:=n1_
    clear n0_ n1_
    refine start_ (n:=21) (S:=fun w' => w'.cell? ⟨gb422,0,none⟩ = some (.int .i64 a0_0) ∧ w'.cell? ⟨gb422,1,none⟩ = some (.string a0_1) ∧ w'.cell? ⟨gb422,2,none⟩ = some (.slice A0_2 l0_2.length c0_2) ∧ w'.cell? ⟨gb422,3,none⟩ = some (.string a0_3)) (ds:=[]) #[false,false,false,false,false,false,false,false,false,false,false,false,false,false,false,false,false,false,false,false,false] (by kernel_rfl) rfl rfl ⟨(zc_ BK422.out 0).trans rfl,(zc_ BK422.out 1).trans rfl,(zc_ BK422.out 2).trans rfl,(zc_ BK422.out 3).trans rfl⟩ (fun hHeld => ?_);refine with_tabW impl_symOk.tab8 impl_symOk.bits8 (fun HT_ HW_ => ?_)
    generalize wc.drew = w27 at BK422 HB hHeld ⊢
    refine zp_ 0 (some 37) ?_
    refine zp_ 1 (some 38) ?_
    refine zp_ 4 (some 41) ?_
    refine zk2_ 2 (some 39) ?_
    refine zk2_ 5 (some 42) ?_
    refine zp_ 6 (some 43) ?_
    refine one_ (i:=3) (N:=some 40) #[true,true,true,true,true,true,true,false,false,false,false,false,false,false,false,false,false,false,false,false,false] rfl rfl (one_of HT_.out (by kernel_rfl)) (by decide) (fun K hK => ?_)
    refine goesV_ #[.pointer (some ⟨gb_,0,none⟩)] Tryz.func44 (by kernel_rfl) rfl #[.string a0_1] (by rfl) rfl rfl (by rfl) zq_ ?_
    show Calls _ _ #[.string a0_1,.pointer (some ⟨gb_,0,none⟩)] _ _
    with_reducible refine (impl_altOk_1.calls g_ a0_1 t425 gb_ Ag_ cg_ _ (blk_below HGB.out zB_) (Kd.C_below HGR.out zB_) HGC.out A21.out).mono ?_
    rintro e w28 ⟨rfl,hb⟩
    refine ⟨_,rfl,?_⟩
    have n0_:=zm_ (blk_below (g:=gb422) (o:=.cells #[.int .i64 a0_0,.string a0_1,.slice A0_2 l0_2.length c0_2,.string a0_3] 76 (0,0)) zK_ hb)
    have n1_:=zm_ (below_step zG_ hb)
    clear BK422
    clear HB
    have BK422:=n0_
    have HB:=n1_
    clear n0_ n1_
    (try clear hb)
    (try clear hb2)
    (try clear hk)
    (try clear hi)
    refine hK.out _ _ ⟨(zc_ BK422.out 0).trans rfl,(zc_ BK422.out 1).trans rfl,(zc_ BK422.out 2).trans rfl,(zc_ BK422.out 3).trans rfl⟩ (fun hHeld => ?_)
    clear hK K
    refine zm2_ ?_
    refine zp_ 7 (some 44) ?_
    refine zp_ 8 (some 45) ?_
    refine zp_ 9 (some 46) ?_
    refine zp_ 11 (some 48) ?_
    refine zk2_ 10 (some 47) ?_
    refine one_ (i:=12) (N:=some 49) #[true,true,true,true,true,true,true,true,true,true,true,true,true,false,false,false,false,false,false,false,false] rfl rfl (one_of HT_.out (by kernel_rfl)) (by decide) (fun K hK => ?_)
    refine goes_ Tryz.func75 (by kernel_rfl) rfl #[.slice A0_2 l0_2.length c0_2,.slice A1 l1.length c1] (by rfl) rfl rfl zq_ ?_
    with_reducible refine (impl_argsKnown.calls kj3 _ _ l0_2 _ _ l1 true _ ?side1 ?side2 ?side3 ?side4 A23.out).mono ?_
    (case side1 => exact zP_)
    (case side2 => exact HC0_2.out)
    (case side3 => exact zP_)
    (case side4 => exact HC1.out)
    rintro e w29 ⟨rfl,hb⟩
    refine ⟨_,rfl,?_⟩
    have n0_:=zm_ (blk_below (g:=gb422) (o:=.cells #[.int .i64 a0_0,.string a0_1,.slice A0_2 l0_2.length c0_2,.string a0_3] 76 (0,0)) zK_ hb)
    have n1_:=zm_ (below_step zG_ hb)
    clear BK422
    clear HB
    have BK422:=n0_
    have HB:=n1_
    clear n0_ n1_
    (try clear hb)
    (try clear hb2)
    (try clear hk)
    (try clear hi)
    refine hK.out _ _ ⟨(zc_ BK422.out 0).trans rfl,(zc_ BK422.out 1).trans rfl,(zc_ BK422.out 2).trans rfl,(zc_ BK422.out 3).trans rfl⟩ (fun hHeld => ?_)
    clear hK K
    refine zm2_ ?_
    refine zp_ 13 (some 50) ?_
    refine zp_ 14 (some 51) ?_
    refine zp_ 15 (some 52) ?_
    refine zp_ 17 (some 54) ?_
    refine zk2_ 16 (some 53) ?_
    refine one_ (i:=18) (N:=some 55) #[true,true,true,true,true,true,true,true,true,true,true,true,true,true,true,true,true,true,true,false,false] rfl rfl (one_of HT_.out (by kernel_rfl)) (by decide) (fun K hK => ?_)
    refine goes_ Tryz.func76 (by kernel_rfl) rfl #[.string a0_3,.slice A1 l1.length c1] (by rfl) rfl rfl zq_ ?_
    with_reducible refine (impl_bindOk.calls kj3 a0_3 _ _ l1 t427 _ ?side1 ?side2 A25.out).mono ?_
    (case side1 => exact zP_)
    (case side2 => exact HC1.out)
    rintro e w' ⟨rfl,⟨nd,rfl⟩⟩
    refine ⟨_,rfl,?_⟩
    refine hK.out _ _ ⟨(zc_ BK422.out 0).trans rfl,(zc_ BK422.out 1).trans rfl,(zc_ BK422.out 2).trans rfl,(zc_ BK422.out 3).trans rfl⟩ (fun hHeld => ?_)
    clear hK K
    refine zm2_ ?_
    refine zp_ 19 (some 56) ?_
    refine zp_ 20 (some 6) ?_
    refine done_ (done_of HT_.out (by kernel_rfl)) ?_
    try go_wp2
    go_ret
    exact ⟨zE_,zG_⟩
   replace c24:=Bool.eq_false_iff.mpr c24
   subst c24
   rw [zF_] at H
   obtain rfl:=zi_ H
   have hcz30_0 : wc.cell? ⟨gb422,0,none⟩ = some (.int .i64 a0_0):=(zc_ BK422.out 0).trans rfl
   have hcz30_1 : wc.cell? ⟨gb422,1,none⟩ = some (.string a0_1):=(zc_ BK422.out 1).trans rfl
   have hcz30_2 : wc.cell? ⟨gb422,2,none⟩ = some (.slice A0_2 l0_2.length c0_2):=(zc_ BK422.out 2).trans rfl
   have hcz30_3 : wc.cell? ⟨gb422,3,none⟩ = some (.string a0_3):=(zc_ BK422.out 3).trans rfl
   have hfz30_0:=zf_ BK422.out 0
   have hfz30_1:=zf_ BK422.out 1
   have hfz30_2:=zf_ BK422.out 2
   have hfz30_3:=zf_ BK422.out 3
   try go_wp2
   have n0_:=zm_ (zr_ BK422.out)
   have n1_:=zm_ (zd_ HB.out)
   clear BK422
   clear HB
   have BK422:=n0_
   have HB:=n1_
   clear n0_ n1_
   refine start_ (n:=21) (S:=fun w' => w'.cell? ⟨gb422,0,none⟩ = some (.int .i64 a0_0) ∧ w'.cell? ⟨gb422,1,none⟩ = some (.string a0_1) ∧ w'.cell? ⟨gb422,2,none⟩ = some (.slice A0_2 l0_2.length c0_2) ∧ w'.cell? ⟨gb422,3,none⟩ = some (.string a0_3)) (ds:=[]) #[false,false,false,false,false,false,false,false,false,false,false,false,false,false,false,false,false,false,false,false,false] (by kernel_rfl) rfl rfl ⟨(zc_ BK422.out 0).trans rfl,(zc_ BK422.out 1).trans rfl,(zc_ BK422.out 2).trans rfl,(zc_ BK422.out 3).trans rfl⟩ (fun hHeld => ?_);refine with_tabW impl_symOk.tab8 impl_symOk.bits8 (fun HT_ HW_ => ?_)
   generalize wc.drew = w31 at BK422 HB hHeld ⊢
   refine zp_ 0 (some 37) ?_
   refine zp_ 1 (some 38) ?_
   refine zp_ 4 (some 41) ?_
   refine zk2_ 2 (some 39) ?_
   refine zk2_ 5 (some 42) ?_
   refine zp_ 6 (some 43) ?_
   refine one_ (i:=3) (N:=some 40) #[true,true,true,true,true,true,true,false,false,false,false,false,false,false,false,false,false,false,false,false,false] rfl rfl (one_of HT_.out (by kernel_rfl)) (by decide) (fun K hK => ?_)
   refine goesV_ #[.pointer (some ⟨gb_,0,none⟩)] Tryz.func44 (by kernel_rfl) rfl #[.string a0_1] (by rfl) rfl rfl (by rfl) zq_ ?_
   show Calls _ _ #[.string a0_1,.pointer (some ⟨gb_,0,none⟩)] _ _
   with_reducible refine (impl_altOk_1.calls g_ a0_1 t425 gb_ Ag_ cg_ _ (blk_below HGB.out zB_) (Kd.C_below HGR.out zB_) HGC.out A21.out).mono ?_
   rintro e w32 ⟨rfl,hb⟩
   refine ⟨_,rfl,?_⟩
   have n0_:=zm_ (blk_below (g:=gb422) (o:=.cells #[.int .i64 a0_0,.string a0_1,.slice A0_2 l0_2.length c0_2,.string a0_3] 76 (0,0)) zK_ hb)
   have n1_:=zm_ (below_step zG_ hb)
   clear BK422
   clear HB
   have BK422:=n0_
   have HB:=n1_
   clear n0_ n1_
   (try clear hb)
   (try clear hb2)
   (try clear hk)
   (try clear hi)
   refine hK.out _ _ ⟨(zc_ BK422.out 0).trans rfl,(zc_ BK422.out 1).trans rfl,(zc_ BK422.out 2).trans rfl,(zc_ BK422.out 3).trans rfl⟩ (fun hHeld => ?_)
   clear hK K
   refine zm2_ ?_
   refine zp_ 7 (some 44) ?_
   refine zp_ 8 (some 45) ?_
   refine zp_ 9 (some 46) ?_
   refine zp_ 11 (some 48) ?_
   refine zk2_ 10 (some 47) ?_
   refine one_ (i:=12) (N:=some 49) #[true,true,true,true,true,true,true,true,true,true,true,true,true,false,false,false,false,false,false,false,false] rfl rfl (one_of HT_.out (by kernel_rfl)) (by decide) (fun K hK => ?_)
   refine goes_ Tryz.func75 (by kernel_rfl) rfl #[.slice A0_2 l0_2.length c0_2,.slice A1 l1.length c1] (by rfl) rfl rfl zq_ ?_
   with_reducible refine (impl_argsKnown.calls kj3 _ _ l0_2 _ _ l1 false _ ?side1 ?side2 ?side3 ?side4 A23.out).mono ?_
   (case side1 => exact zP_)
   (case side2 => exact HC0_2.out)
   (case side3 => exact zP_)
   (case side4 => exact HC1.out)
   rintro e w33 ⟨rfl,hb⟩
   refine ⟨_,rfl,?_⟩
   have n0_:=zm_ (blk_below (g:=gb422) (o:=.cells #[.int .i64 a0_0,.string a0_1,.slice A0_2 l0_2.length c0_2,.string a0_3] 76 (0,0)) zK_ hb)
   have n1_:=zm_ (below_step zG_ hb)
   clear BK422
   clear HB
   have BK422:=n0_
   have HB:=n1_
   clear n0_ n1_
   (try clear hb)
   (try clear hb2)
   (try clear hk)
   (try clear hi)
   refine hK.out _ _ ⟨(zc_ BK422.out 0).trans rfl,(zc_ BK422.out 1).trans rfl,(zc_ BK422.out 2).trans rfl,(zc_ BK422.out 3).trans rfl⟩ (fun hHeld => ?_)
   clear hK K
   refine zm2_ ?_
   refine zp_ 13 (some 50) ?_
   refine zp_ 14 (some 51) ?_
   refine pure_ (i:=15) (N:=some 52) (v:=undef) (a':=?_) #[true,true,true,true,true,true,true,true,true,true,true,true,true,true,true,true,false,false,false,false,false] rfl rfl (any_of HT_.out (by kernel_rfl)) (fun _ _ _ h => h) (Or.inr ⟨by rfl,rfl⟩) ?_ ?_
   rotate_left
   ·simp only [Act.put,List.setIfInBounds_toArray,List.set_cons_zero,List.set_cons_succ,i64_w,i32_w,IntKind.wrap_u8]
    rfl
   refine pure_ (i:=16) (N:=some 53) (v:=undef) (a':=?_) #[true,true,true,true,true,true,true,true,true,true,true,true,true,true,true,true,true,false,false,false,false] rfl rfl (any_of HT_.out (by kernel_rfl)) (fun _ _ _ h => h) (Or.inr ⟨by rfl,rfl⟩) ?_ ?_
   rotate_left
   ·simp only [Act.put,List.setIfInBounds_toArray,List.set_cons_zero,List.set_cons_succ,i64_w,i32_w,IntKind.wrap_u8]
    rfl
   refine pure_ (i:=17) (N:=some 54) (v:=undef) (a':=?_) #[true,true,true,true,true,true,true,true,true,true,true,true,true,true,true,true,true,true,false,false,false] rfl rfl (any_of HT_.out (by kernel_rfl)) (fun _ _ _ h => h) (Or.inr ⟨by rfl,rfl⟩) ?_ ?_
   rotate_left
   ·simp only [Act.put,List.setIfInBounds_toArray,List.set_cons_zero,List.set_cons_succ,i64_w,i32_w,IntKind.wrap_u8]
    rfl
   refine pure_ (i:=18) (N:=some 55) (v:=undef) (a':=?_) #[true,true,true,true,true,true,true,true,true,true,true,true,true,true,true,true,true,true,true,false,false] rfl rfl (any_of HT_.out (by kernel_rfl)) (fun _ _ _ h => h) (Or.inr ⟨by rfl,rfl⟩) ?_ ?_
   rotate_left
   ·simp only [Act.put,List.setIfInBounds_toArray,List.set_cons_zero,List.set_cons_succ,i64_w,i32_w,IntKind.wrap_u8]
    rfl
   refine zp_ 19 (some 56) ?_
   refine zp_ 20 (some 6) ?_
   refine done_ (done_of HT_.out (by kernel_rfl)) ?_
   try go_wp2
   go_ret
   exact ⟨zE_,zG_⟩
end Go.Proofs.YtkbgmojomgelbaaGreat.MFnExactGrammarOk
