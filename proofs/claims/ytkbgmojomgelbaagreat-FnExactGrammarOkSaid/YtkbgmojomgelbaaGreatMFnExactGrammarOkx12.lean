import Derived.Test.YtkbgmojomgelbaaGreatMFnExactGrammarOkx0
import Derived.Test.YtkbgmojomgelbaaGreatMFnExactGrammarOkx11
namespace Go.Proofs.YtkbgmojomgelbaaGreat.MFnExactGrammarOk
open Go.RowKit Go.Proofs.YtkbgmojomgelbaaGreatW.PrintWords Go.Proofs.YtkbgmojomgelbaaGreatW.PrintLast Go.Proofs.YtkbgmojomgelbaaGreatW.PrintMore
attribute [local go_sem] max2_int min2_int max_two min_two max_three min_three max_four min_four
set_option linter.unusedVariables false
set_option linter.unusedSimpArgs false
set_option maxHeartbeats 8000000
set_option maxRecDepth 100000
theorem zt12_16 {p : Prop} (h : p := by (with_reducible repeat (first|apply Kd.R_alloc|apply Kd.R_drewN|apply Kd.R_drew));exact Kd.R_mono HO_3.out (fun _ hk => trivial)) : p := h
theorem zt12_15 {p : Prop} (h : p := by rw [hg];exact Nat.ne_of_gt (blk_lt (g:=gb308) (o:=.cells #[.string a0_0,.slice A0_1 l0_1.length c0_1,.slice A0_2 l0_2.length c0_2] 73 (0,0)) zK_)) : p := h
theorem zt12_14 {p : Prop} (h : p := by rw [hg];exact Nat.ne_of_lt (blk_lt (g:=gb308) (o:=.cells #[.string a0_0,.slice A0_1 l0_1.length c0_1,.slice A0_2 l0_2.length c0_2] 73 (0,0)) zK_)) : p := h
theorem zt12_11 {p : Prop} (h : p := by (with_reducible repeat first|refine zl_ ?_ _|refine zr_ ?_|refine zk_ ?_ _);refine blk_far ?_ NB309_310.out _;(with_reducible repeat first|refine zl_ ?_ _|refine zr_ ?_|refine zk_ ?_ _);exact BK309.out) : p := h
theorem zt12_10 {p : Prop} (h : p := by (with_reducible repeat first|refine zl_ ?_ _|refine zr_ ?_|refine zk_ ?_ _);refine blk_far ?_ NB308_310.out _;(with_reducible repeat first|refine zl_ ?_ _|refine zr_ ?_|refine zk_ ?_ _);exact BK308.out) : p := h
theorem zt12_4 {p : Prop} (h : p := by have h_ : (x4_1 : Int) < ((x3_1.length : Int) : Int):=zo_;first|exact h_|(have e_:=(Kd.R_reads' HO_3.out).1;omega)|simpa using h_) : p := h

def laws_toAltS.l0 : Nat → List (S131) → List (S57) → Int → Option ((List (S57)))
 |0,_,_,_ => none
 |k + 1,x0,x3,x4 => if x4 < (x0.length : Int) then (if 0 ≤ x4 then ((laws_toAlt.f k ((rd_T131 x0 x4).f0)).bind fun t304 => (if x4 < (x3.length : Int) then (laws_toAltS.l0 k x0 (x3.set (x4 : Int).toNat (⟨t304⟩ : S57)) (wrap64 (x4 + 1))) else (none))) else (none)) else (some x3)
def laws_toAltS.f (k : Nat) (l0 : List (S131)) : Option ((List (S57))):=if 0 ≤ (l0.length : Int) then (if ((l0.length : Int) : Int).toNat ≤ 11728124029610 then (laws_toAltS.l0 k l0 (List.replicate ((l0.length : Int) : Int).toNat z57) 0) else (none)) else (none)
theorem laws_toAltS.calls (k : Nat) (A0 : Option Addr) (c0 : Nat) (l0 : List (S131)) (r : List (S57)) (w : World) (hr0 : Kd.C k131 w A0 l0.length l0) (hc0 : l0.length ≤ c0) (h : laws_toAltS.f k l0 = some r) :
  Calls Tryz.prog 71 #[.slice A0 l0.length c0] w fun e w' => ∃ v0_ : Value,e = .returned (v0_) ∧ Kd.R k57 57 w' w.heap.size (fun _ => True) v0_ r ∧ Below w.heap.size w w':=by
 have hu131:=Tryz.underlying131
 have hu57:=Tryz.underlying57
 have HR0:=zm_ hr0
 have HC0:=zm_ hc0
 clear hr0 hc0
 have HB:=zm_ (Below.refl w.heap.size w)
 have H : (if 0 ≤ (l0.length : Int) then (if ((l0.length : Int) : Int).toNat ≤ 11728124029610 then (laws_toAltS.l0 k l0 (List.replicate ((l0.length : Int) : Int).toNat z57) 0) else (none)) else (none)) = some r:=h
 clear h
 by_cases c2 : 0 ≤ (l0.length : Int)
 rotate_left
 ·rw [if_neg c2] at H
  cases H


 rw [if_pos c2] at H
 have c2b0:=eq_true c2
 have c2b1:=decide_eq_true c2
 clear c2
 by_cases c3 : ((l0.length : Int) : Int).toNat ≤ 11728124029610
 rotate_left
 ·rw [if_neg c3] at H
  cases H
 rw [if_pos c3] at H
 have c3b0:=eq_true c3
 have c3b1:=decide_eq_true c3
 clear c3
 obtain ⟨y300,hy300⟩ : ∃ y_ : List (S57),y_ = (List.replicate ((l0.length : Int) : Int).toNat z57):=⟨_,rfl⟩
 replace H : (laws_toAltS.l0 k l0 y300 0) = some r:=by first|(rw [hy300];with_reducible exact H)|(have H2_:=(Option.bind_some _ _).symm.trans H;rw [hy300];with_reducible exact H2_)|(have H2_:=(Option.bind_some _ _).symm.trans H;with_reducible exact H2_)|with_reducible exact H|(rw [hy300];exact H)|exact H
 have Ny300:=zm_ hy300
 clear hy300
 have H':=zm_ H
 clear H
 go_enter Tryz.func71,Tryz.ntmps71
 go_wp2_with (first|((with_reducible refine gate_dst (N:=7) rfl ?_);refine Kd.R_make k57 _ 57 rfl (N:=7) rfl 47 _ _ rfl (l0.length : Int) rfl rfl Tryz.underlying47 (.agg #[(.slice none 0 0)]) 24 info57 rfl (by decide) (by omega) z57 (ok:=fun _ => True) (okp:=fun _ => True) (k57_mkM _ _ _ z57 (Kd.R_nil _ _ _ _ _)) (fun _ hk => hk) trivial (zo_) (Nat.le_trans (Nat.mul_le_mul_right _ (zo_ : (l0.length : Int).toNat ≤ 11728124029610)) (by omega)) (Below.refl _ _) (Nat.le_refl _) ?_;intro v301 w4 ho5 hb hg_ hnew_;clear hg_ hnew_;(first|rw [← Ny300.out] at ho5|(simp only [Int.reduceToNat] at ho5;rw [← Ny300.out] at ho5));have n0_:=zm_ (Kd.R_lower ho5 (below_size zB_));have n1_:=zm_ (below_step zB_ hb);clear HB;have HO302:=n0_;have HB:=n1_;clear n0_ n1_;clear hb ho5))
 go_loopg [4] k (fun kq v4 w' => ∃ (x3_1 : List (S57)) (x4_1 : Int),v4 = .int .i64 x4_1 ∧ Aside0 (laws_toAltS.l0 kq l0 x3_1 x4_1 = some r) ∧ Aside0 (kq ≤ k) ∧ Aside0 (Kd.R k57 57 w' w.heap.size (fun _ => True) v301 x3_1) ∧ Aside0 (Below w.heap.size w w'))
 case atStart => exact ⟨(y300),(0),zV_,H',⟨Nat.le_refl _⟩,⟨zO_⟩,⟨zG_⟩⟩
 case round =>
  clear H'
  obtain ⟨x3_1,x4_1,rfl,HA,HK1,HO_3,HB⟩:=hrel
  cases gk with
  |zero => exact absurd HA.out (by simp [laws_toAltS.l0])
  |succ k1 =>
   have H:=HA.out
   clear HA
   simp only [laws_toAltS.l0] at H
   by_cases c6 : x4_1 < (l0.length : Int)
   rotate_left
   ·rw [if_neg c6] at H
    have c6b0:=decide_eq_false c6
    clear c6
    obtain rfl:=zi_ H
    go_wp2
    go_ret
    exact ⟨_,by first|rfl|(simp [errW_none,errW_some] <;> rfl)|(simp [*,errW_none,errW_some] <;> rfl),by (with_reducible repeat (first|apply Kd.R_alloc|apply Kd.R_drewN|apply Kd.R_drew));exact HO_3.out,zG_⟩
   rw [if_pos c6] at H
   have c6b0:=decide_eq_true c6
   clear c6
   by_cases c7 : 0 ≤ x4_1
   rotate_left
   ·rw [if_neg c7] at H
    cases H
   rw [if_pos c7] at H
   have c7b0:=decide_eq_true c7
   clear c7
   obtain ⟨t304,A8,H⟩:=zJ_ H
   try dsimp only at H
   by_cases c9 : x4_1 < (x3_1.length : Int)
   rotate_left
   ·rw [if_neg c9] at H
    cases H
   rw [if_pos c9] at H
   have c9b0:=decide_eq_true c9
   clear c9
   obtain ⟨y307,hy307⟩ : ∃ y_ : List (S57),y_ = (x3_1.set (x4_1 : Int).toNat (⟨t304⟩ : S57)):=⟨_,rfl⟩
   replace H : (laws_toAltS.l0 k1 l0 y307 (wrap64 (x4_1 + 1))) = some r:=by first|(rw [hy307];with_reducible exact H)|(have H2_:=(Option.bind_some _ _).symm.trans H;rw [hy307];with_reducible exact H2_)|(have H2_:=(Option.bind_some _ _).symm.trans H;with_reducible exact H2_)|with_reducible exact H|(rw [hy307];exact H)|exact H
   have Ny307:=zm_ hy307
   clear hy307
   have H':=zm_ H
   clear H
   have p303 : 0 ≤ (x4_1 : Int):=zo_
   have q303 : x4_1 < (l0.length : Int):=zo_
   obtain ⟨ad303,A303_0,c303_0,e303,hx303_0,hl303_0,hi303_0⟩:=at_T131 HR0.out x4_1 p303 q303
   cases e303
   replace hx303_0:=(HB.out.cell (zb_ w _ hx303_0)).trans hx303_0
   have HR303_0:=zm_ hi303_0
   have HC303_0:=zm_ hl303_0
   clear hi303_0 hl303_0
   replace p303:=eq_true p303
   replace q303:=eq_true q303
   go_wp2_with (first|((with_reducible refine gate_callee (f:=95) rfl ?_);refine goesL_ (some 20) rfl rfl Tryz.func95 (by kernel_rfl) rfl #[.agg #[.slice A303_0 ((rd_T131 l0 x4_1).f0).length c303_0]] rfl zq_ ?_;(with_reducible refine (laws_toAlt.calls k1 _ _ ((rd_T131 l0 x4_1).f0) t304 _ ?side1 ?side2 A8.out).mono ?_);(case side1 => exact zP_);(case side2 => exact HC303_0.out);rintro e w11 ⟨v305,rfl,ho0,hb⟩;refine ⟨_,rfl,?_⟩;have n0_:=zm_ (Kd.R_elder' (by (with_reducible repeat (first|apply Kd.R_alloc|apply Kd.R_drewN|apply Kd.R_drew));exact HO_3.out) (Kd.R_base ho0) hb);have n1_:=zm_ (Kd.R_lower ho0 (below_size zB_));have n2_:=zm_ (below_step zB_ hb);clear HO_3;clear HB;have HO_3:=n0_;have HO306:=n1_;have HB:=n2_;clear n0_ n1_ n2_;(try clear hb);(try clear hb2);(try clear hk);(try clear hi);(try clear ho0);have p10 : 0 ≤ (x4_1 : Int):=zo_;have q10 : (x4_1 : Int) < ((x3_1.length : Int) : Int):=zo_;obtain ⟨go10,co10,eo10,gb10,gl10,cl10,HG10⟩:=Kd.R_form HO_3.out (by omega);(first|cases eo10|(injection eo10 with ea_ en_ ec_;(first|subst ea_|(injection ea_ with ea_;subst ea_));subst ec_;clear en_));have GB10:=zm_ gb10;have GG10:=zm_ HG10;clear gb10 gl10 HG10;obtain ⟨ce10,hcl10,hM10,hcc10,hfr10⟩:=Kd.R_elem HO_3.out z57 (x4_1 : Int) p10 q10;obtain ⟨ve10_0,rfl,ge10_0⟩:=k57_openM hM10;have hx10_0:=hcc10 0 _ rfl;have hf10_0:=hfr10 0;(try simp only [show (k57).sz = 1 from rfl,Nat.mul_one,Nat.add_zero] at hx10_0);(try simp only [show (k57).sz = 1 from rfl,Nat.mul_one,Nat.add_zero] at hf10_0);clear hcl10 hcc10 hfr10 hM10;replace p10:=eq_true p10;replace q10:=eq_true q10;have n_:=zm_ (Kd.R_mono (ok':=(fun k_ => some k_ ≠ (v305 : Value).ownBlock)) HO_3.out (fun k_ hk => hk.2));clear HO_3;have HO_3:=n_;clear n_;have HX12:=zm_ (show Kd.R k57 57 w11 w.heap.size (fun _ => True) (.slice (some ⟨go10,0,none⟩) x3_1.length co10) x3_1 from zt12_16);obtain ⟨ce12,hcl12,hM12,hcc12,hfr12⟩:=Kd.R_elem HX12.out z57 (x4_1 : Int) (zo_) zt12_4;obtain ⟨ve12_0,rfl,ge12_0⟩:=k57_openM hM12;have HP12:=Kd.R_seg HX12.out (x4_1 : Int) (zo_) zt12_4 (seg:=[v305]) (j:=0) hcl12 hcc12 (show 1 ≤ 1 from by decide) (x':=(⟨t304⟩ : S57)) (k57_mkM _ _ _ (⟨t304⟩ : S57) (Kd.R_mono (Kd.R_apart' (HO306.out) (Kd.R_typed HO_3.out) (by decide)) (fun k_ hk => ⟨trivial,fun e_ => (hk.2) (by rw [e_];rfl)⟩))) (fun _ hk => hk);have hx12_0:=hcc12 0 _ rfl;(try simp only [show (k57).sz = 1 from rfl,Nat.mul_one,Nat.add_zero] at hx12_0);have hf12_0:=hfr12 0;(try simp only [show (k57).sz = 1 from rfl,Nat.mul_one,Nat.add_zero] at hf12_0);clear hcl12 hcc12 hfr12 hM12;(try simp only [show (k57).sz = 1 from rfl,Nat.mul_one,Nat.add_zero] at HP12))|((with_reducible refine gate_store (t:=57) (p:=21) rfl ?_);(first|have st0_:=store_own (P:=Tryz.prog) HO306.out|have st0_:=store_own (P:=Tryz.prog) (Kd.S_R HO306.out));refine store_event (t:=57) (p:=21) (v:=?vo_w13) (w1:=(w11.setCell ⟨go10,(x4_1 : Int).toNat,none⟩ (v305))) ?hg ?ho ?hn ?hr ?_;(case ho => rfl);(case hg => rfl);(case hn => rfl);(case hr => first|(go_simp;done)|(go_simp;rfl));intro w13 hw;have hg : w11.grownBy w13 (some go10):=(by rw [hw];exact HP12.2);have hp_ : Kd.R k57 57 w13 w.heap.size (fun _ => True) (.slice (some ⟨go10,0,none⟩) x3_1.length co10) y307:=(by rw [hw,Ny307.out];exact HP12.1);clear HP12;have n0_:=zm_ (hp_);have n1_:=zm_ ((by rw [hw];exact zs_ (HB.out) GB10.out : Below w.heap.size w w13));clear HO_3;clear HB;clear HO306;have HO_3:=n0_;have HB:=n1_;clear n0_ n1_;clear hg hw hp_))
   go_roundg k1
   case measure => have:=HK1.out;omega
   case rel => exact ⟨(y307),(wrap64 (x4_1 + 1)),zV_,H',⟨by have:=HK1.out;omega⟩,⟨zO_⟩,⟨zG_⟩⟩
def laws_toRule.f (k : Nat) (a0_0 : ByteArray) (l0_1 : List ByteArray) (l0_2 : List (S131)) : Option (ByteArray × List ByteArray × (List (S57))):=(laws_toStringS.f k l0_1).bind fun t311 => ((laws_toAltS.f k l0_2).bind fun t314 => (some (a0_0,t311,t314)))
theorem laws_toRule.calls (k : Nat) (a0_0 : ByteArray) (A0_1 : Option Addr) (c0_1 : Nat) (l0_1 : List ByteArray) (A0_2 : Option Addr) (c0_2 : Nat) (l0_2 : List (S131)) (r1 : ByteArray) (r2 : List ByteArray) (r3 : List (S57)) (w : World) (hr0_1 : Kd.C Kd.string w A0_1 l0_1.length l0_1) (hc0_1 : l0_1.length ≤ c0_1) (hr0_2 : Kd.C k131 w A0_2 l0_2.length l0_2) (hc0_2 : l0_2.length ≤ c0_2) (h : laws_toRule.f k a0_0 l0_1 l0_2 = some (r1,r2,r3)) :
  Calls Tryz.prog 37 #[.agg #[.string a0_0,.slice A0_1 l0_1.length c0_1,.slice A0_2 l0_2.length c0_2]] w fun e w' => ∃ v1_ v2_ : Value,e = .returned (.agg #[.string r1,v1_,v2_]) ∧ Kd.R Kd.string 9 w' w.heap.size (fun _ => True) v1_ r2 ∧ Kd.R k57 57 w' w.heap.size (fun _ => True) v2_ r3 ∧ Below w.heap.size w w':=by
 have hu73:=Tryz.underlying73
 have hu49:=Tryz.underlying49
 have HR0_1:=zm_ hr0_1
 have HC0_1:=zm_ hc0_1
 clear hr0_1 hc0_1
 have HR0_2:=zm_ hr0_2
 have HC0_2:=zm_ hc0_2
 clear hr0_2 hc0_2
 have HB:=zm_ (Below.refl w.heap.size w)
 have H : ((laws_toStringS.f k l0_1).bind fun t311 => ((laws_toAltS.f k l0_2).bind fun t314 => (some (a0_0,t311,t314)))) = some (r1,r2,r3):=h
 clear h
 obtain ⟨t311,A2,H⟩:=zJ_ H
 try dsimp only at H
 obtain ⟨t314,A3,H⟩:=zJ_ H
 try dsimp only at H
 simp only [Option.some.injEq,Prod.mk.injEq] at H
 obtain ⟨rfl,rfl,rfl⟩:=H
 go_enter Tryz.func37,Tryz.ntmps37
 go_wp2_with (first|((with_reducible refine gate_dst (N:=1) rfl ?_);refine box_event ?hg (N:=1) ?hd (cs:=#[.string a0_0,.slice A0_1 l0_1.length c0_1,.slice A0_2 l0_2.length c0_2]) (t:=73) ?hr ?_;(case hd => rfl);(case hg => rfl);(case hr => first|(go_simp;done)|(go_simp;rfl));intro gb308 hg w4 hbox hb;have n0_:=zm_ (below_step zB_ hb);have n1_:=zm_ (hbox);have n2_:=zm_ ((by rw [hg];exact (below_size zB_) : w.heap.size ≤ gb308));have n3_:=zm_ ((by rw [hg];exact (below_size zB_) : w.heap.size ≤ gb308));clear HB;have HB:=n0_;have BK308:=n1_;have GW308:=n2_;have GE308:=n3_;clear n0_ n1_ n2_ n3_;clear hb hbox hg)|((with_reducible refine gate_dst (N:=2) rfl ?_);refine box_event ?hg (N:=2) ?hd (cs:=#[.string (⟨#[]⟩ : ByteArray),.slice none 0 0,.slice none 0 0]) (t:=49) ?hr ?_;(case hd => rfl);(case hg => rfl);(case hr => first|(go_simp;done)|(go_simp;rfl));intro gb309 hg w5 hbox hb;have n0_:=zm_ (blk_below (g:=gb308) (o:=.cells #[.string a0_0,.slice A0_1 l0_1.length c0_1,.slice A0_2 l0_2.length c0_2] 73 (0,0)) zK_ hb);have n1_:=zm_ (below_step zG_ hb);have n2_:=zm_ (hbox);have n3_:=zm_ ((by rw [hg];exact (below_size zG_) : w.heap.size ≤ gb309));have n4_:=zm_ ((by rw [hg];exact (below_size zG_) : w.heap.size ≤ gb309));have n5_:=zm_ ((zt12_14 : gb308 ≠ gb309));have n6_:=zm_ ((zt12_15 : gb309 ≠ gb308));clear BK308;clear HB;have BK308:=n0_;have HB:=n1_;have BK309:=n2_;have GW309:=n3_;have GE309:=n4_;have NB308_309:=n5_;have NB309_308:=n6_;clear n0_ n1_ n2_ n3_ n4_ n5_ n6_;clear hb hbox hg)|((with_reducible refine gate_dst (N:=3) rfl ?_);refine box_event ?hg (N:=3) ?hd (cs:=#[.string (⟨#[]⟩ : ByteArray),.slice none 0 0,.slice none 0 0]) (t:=49) ?hr ?_;(case hd => rfl);(case hg => rfl);(case hr => first|(go_simp;done)|(go_simp;rfl));intro gb310 hg w6 hbox hb;have n0_:=zm_ (blk_below (g:=gb308) (o:=.cells #[.string a0_0,.slice A0_1 l0_1.length c0_1,.slice A0_2 l0_2.length c0_2] 73 (0,0)) zK_ hb);have n1_:=zm_ (blk_below (g:=gb309) (o:=.cells #[.string (⟨#[]⟩ : ByteArray),.slice none 0 0,.slice none 0 0] 49 (0,0)) zK_ hb);have n2_:=zm_ (below_step zG_ hb);have n3_:=zm_ (hbox);have n4_:=zm_ ((by rw [hg];exact (below_size zG_) : w.heap.size ≤ gb310));have n5_:=zm_ ((by rw [hg];exact (below_size zG_) : w.heap.size ≤ gb310));have n6_:=zm_ ((zt12_14 : gb308 ≠ gb310));have n7_:=zm_ ((zt12_15 : gb310 ≠ gb308));have n8_:=zm_ ((by rw [hg];exact Nat.ne_of_lt (blk_lt (g:=gb309) (o:=.cells #[.string (⟨#[]⟩ : ByteArray),.slice none 0 0,.slice none 0 0] 49 (0,0)) zK_) : gb309 ≠ gb310));have n9_:=zm_ ((by rw [hg];exact Nat.ne_of_gt (blk_lt (g:=gb309) (o:=.cells #[.string (⟨#[]⟩ : ByteArray),.slice none 0 0,.slice none 0 0] 49 (0,0)) zK_) : gb310 ≠ gb309));clear BK308;clear BK309;clear HB;have BK308:=n0_;have BK309:=n1_;have HB:=n2_;have BK310:=n3_;have GW310:=n4_;have GE310:=n5_;have NB308_310:=n6_;have NB310_308:=n7_;have NB309_310:=n8_;have NB310_309:=n9_;clear n0_ n1_ n2_ n3_ n4_ n5_ n6_ n7_ n8_ n9_;clear hb hbox hg;have hnb7:=NB308_309.out;have hnc7:=NB309_308.out;have hnb8:=NB308_310.out;have hnc8:=NB310_308.out;have hcz9_0 : w6.cell? ⟨gb308,0,none⟩ = some (.string a0_0):=(zc_ BK308.out 0).trans rfl;have hcz9_1 : w6.cell? ⟨gb308,1,none⟩ = some (.slice A0_1 l0_1.length c0_1):=(zc_ BK308.out 1).trans rfl;have hcz9_2 : w6.cell? ⟨gb308,2,none⟩ = some (.slice A0_2 l0_2.length c0_2):=(zc_ BK308.out 2).trans rfl;have hfz9_0:=zf_ BK308.out 0;have hfz9_1:=zf_ BK308.out 1;have hfz9_2:=zf_ BK308.out 2;have hnb10:=NB310_309.out;have hnc10:=NB309_310.out;have hcz11_0 : w6.cell? ⟨gb310,0,none⟩ = some (.string (⟨#[]⟩ : ByteArray)):=(zc_ BK310.out 0).trans rfl;have hcz11_1 : w6.cell? ⟨gb310,1,none⟩ = some (.slice none 0 0):=(zc_ BK310.out 1).trans rfl;have hcz11_2 : w6.cell? ⟨gb310,2,none⟩ = some (.slice none 0 0):=(zc_ BK310.out 2).trans rfl;have hfz11_0:=zf_ BK310.out 0;have hfz11_1:=zf_ BK310.out 1;have hfz11_2:=zf_ BK310.out 2)|((with_reducible refine gate_callee (f:=70) rfl ?_);refine goesL_ (some 9) rfl rfl Tryz.func70 (by kernel_rfl) rfl #[.slice A0_1 l0_1.length c0_1] rfl zq_ ?_;(with_reducible refine (laws_toStringS.calls k _ _ l0_1 t311 _ ?side1 ?side2 A2.out).mono ?_);(case side1 => exact Kd.C_below HR0_1.out zG_);(case side2 => exact HC0_1.out);rintro e w12 ⟨v312,rfl,ho0,hb⟩;refine ⟨_,rfl,?_⟩;have n0_:=zm_ (Kd.R_lower ho0 (below_size zG_));have n1_:=zm_ (blk_below (g:=gb308) (o:=.cells #[.string a0_0,.slice A0_1 l0_1.length c0_1,.slice A0_2 l0_2.length c0_2] 73 (0,0)) zt12_10 hb);have n2_:=zm_ (blk_below (g:=gb309) (o:=.cells #[.string (⟨#[]⟩ : ByteArray),.slice none 0 0,.slice none 0 0] 49 (0,0)) zt12_11 hb);have n3_:=zm_ (blk_below (g:=gb310) (o:=.cells #[.string a0_0,.slice none 0 0,.slice none 0 0] 49 (0,0)) (by (with_reducible repeat first|refine zl_ ?_ _|refine zr_ ?_|refine zk_ ?_ _);refine blk_put (cs:=#[.string (⟨#[]⟩ : ByteArray),.slice none 0 0,.slice none 0 0]) ?_ 0 _ rfl;(with_reducible repeat first|refine zl_ ?_ _|refine zr_ ?_|refine zk_ ?_ _);exact BK310.out) hb);have n4_:=zm_ (below_step zG_ hb);clear BK308;clear BK309;clear BK310;clear HB;have HO313:=n0_;have BK308:=n1_;have BK309:=n2_;have BK310:=n3_;have HB:=n4_;clear n0_ n1_ n2_ n3_ n4_;(try clear hb);(try clear hb2);(try clear hk);(try clear hi);(try clear ho0);obtain ⟨Ao13,co13,eo13⟩:=Kd.R_slice HO313.out;subst eo13;have hcz14_0 : w12.cell? ⟨gb310,0,none⟩ = some (.string a0_0):=(zc_ BK310.out 0).trans rfl;have hcz14_1 : w12.cell? ⟨gb310,1,none⟩ = some (.slice none 0 0):=(zc_ BK310.out 1).trans rfl;have hcz14_2 : w12.cell? ⟨gb310,2,none⟩ = some (.slice none 0 0):=(zc_ BK310.out 2).trans rfl;have hfz14_0:=zf_ BK310.out 0;have hfz14_1:=zf_ BK310.out 1;have hfz14_2:=zf_ BK310.out 2;have hcz15_0 : w12.cell? ⟨gb308,0,none⟩ = some (.string a0_0):=(zc_ BK308.out 0).trans rfl;have hcz15_1 : w12.cell? ⟨gb308,1,none⟩ = some (.slice A0_1 l0_1.length c0_1):=(zc_ BK308.out 1).trans rfl;have hcz15_2 : w12.cell? ⟨gb308,2,none⟩ = some (.slice A0_2 l0_2.length c0_2):=(zc_ BK308.out 2).trans rfl;have hfz15_0:=zf_ BK308.out 0;have hfz15_1:=zf_ BK308.out 1;have hfz15_2:=zf_ BK308.out 2)|((with_reducible refine gate_callee (f:=71) rfl ?_);refine goesL_ (some 13) rfl rfl Tryz.func71 (by kernel_rfl) rfl #[.slice A0_2 l0_2.length c0_2] rfl zq_ ?_;(with_reducible refine (laws_toAltS.calls k _ _ l0_2 t314 _ ?side1 ?side2 A3.out).mono ?_);(case side1 => exact Kd.C_below HR0_2.out zG_);(case side2 => exact HC0_2.out);rintro e w16 ⟨v315,rfl,ho0,hb⟩;refine ⟨_,rfl,?_⟩;have n0_:=zm_ (Kd.R_below (by (with_reducible repeat (first|apply Kd.R_alloc|apply Kd.R_drewN|apply Kd.R_drew));exact (Kd.R_mono (Kd.R_far (p:=⟨gb310,1,none⟩) (Kd.R_types HO313.out BK310.out (by decide)) (fun _ hk => hk.2) (.slice Ao13 t311.length co13)) (fun _ h_ => h_.1))) hb);have n1_:=zm_ (Kd.R_lower ho0 (below_size zG_));have n2_:=zm_ (blk_below (g:=gb308) (o:=.cells #[.string a0_0,.slice A0_1 l0_1.length c0_1,.slice A0_2 l0_2.length c0_2] 73 (0,0)) zt12_10 hb);have n3_:=zm_ (blk_below (g:=gb309) (o:=.cells #[.string (⟨#[]⟩ : ByteArray),.slice none 0 0,.slice none 0 0] 49 (0,0)) zt12_11 hb);have n4_:=zm_ (blk_below (g:=gb310) (o:=.cells #[.string a0_0,.slice Ao13 t311.length co13,.slice none 0 0] 49 (0,0)) (by (with_reducible repeat first|refine zl_ ?_ _|refine zr_ ?_|refine zk_ ?_ _);refine blk_put (cs:=#[.string a0_0,.slice none 0 0,.slice none 0 0]) ?_ 1 _ rfl;(with_reducible repeat first|refine zl_ ?_ _|refine zr_ ?_|refine zk_ ?_ _);exact BK310.out) hb);have n5_:=zm_ (below_step zG_ hb);clear HO313;clear BK308;clear BK309;clear BK310;clear HB;have HO313:=n0_;have HO316:=n1_;have BK308:=n2_;have BK309:=n3_;have BK310:=n4_;have HB:=n5_;clear n0_ n1_ n2_ n3_ n4_ n5_;(try clear hb);(try clear hb2);(try clear hk);(try clear hi);(try clear ho0);obtain ⟨Ao17,co17,eo17⟩:=Kd.R_slice HO316.out;subst eo17;have hcz18_0 : w16.cell? ⟨gb310,0,none⟩ = some (.string a0_0):=(zc_ BK310.out 0).trans rfl;have hcz18_1 : w16.cell? ⟨gb310,1,none⟩ = some (.slice Ao13 t311.length co13):=(zc_ BK310.out 1).trans rfl;have hcz18_2 : w16.cell? ⟨gb310,2,none⟩ = some (.slice none 0 0):=(zc_ BK310.out 2).trans rfl;have hfz18_0:=zf_ BK310.out 0;have hfz18_1:=zf_ BK310.out 1;have hfz18_2:=zf_ BK310.out 2;have hcz19_0 : w16.cell? ⟨gb309,0,none⟩ = some (.string (⟨#[]⟩ : ByteArray)):=(zc_ BK309.out 0).trans rfl;have hcz19_1 : w16.cell? ⟨gb309,1,none⟩ = some (.slice none 0 0):=(zc_ BK309.out 1).trans rfl;have hcz19_2 : w16.cell? ⟨gb309,2,none⟩ = some (.slice none 0 0):=(zc_ BK309.out 2).trans rfl;have hfz19_0:=zf_ BK309.out 0;have hfz19_1:=zf_ BK309.out 1;have hfz19_2:=zf_ BK309.out 2))
 refine bodyPost_ret (results_cell_row rfl _ _ gb309 49 #[.string a0_0,.slice Ao13 t311.length co13,.slice Ao17 t314.length co17] (0,0) _ rfl (by (with_reducible repeat first|refine zl_ ?_ _|refine zr_ ?_|refine zk_ ?_ _);refine blk_put (cs:=#[.string a0_0,.slice Ao13 t311.length co13,.slice none 0 0]) ?_ 2 _ rfl;(with_reducible repeat first|refine zl_ ?_ _|refine zr_ ?_|refine zk_ ?_ _);refine blk_put (cs:=#[.string a0_0,.slice none 0 0,.slice none 0 0]) ?_ 1 _ rfl;(with_reducible repeat first|refine zl_ ?_ _|refine zr_ ?_|refine zk_ ?_ _);refine blk_put (cs:=#[.string (⟨#[]⟩ : ByteArray),.slice none 0 0,.slice none 0 0]) ?_ 0 _ rfl;(with_reducible repeat first|refine zl_ ?_ _|refine zr_ ?_|refine zk_ ?_ _);refine blk_far ?_ NB309_310.out _;(with_reducible repeat first|refine zl_ ?_ _|refine zr_ ?_|refine zk_ ?_ _);exact BK309.out) Tryz.underlying49 rfl (by kernel_rfl)) rfl ?_
 exact ⟨_,_,by first|rfl|(simp [errW_none,errW_some] <;> rfl)|(simp [*,errW_none,errW_some] <;> rfl),by (with_reducible repeat (first|apply Kd.R_alloc|apply Kd.R_drewN|apply Kd.R_drew));exact Kd.R_mono (Kd.R_far (p:=⟨gb309,2,none⟩) (Kd.R_far (p:=⟨gb309,1,none⟩) (Kd.R_far (p:=⟨gb309,0,none⟩) (Kd.R_far (p:=⟨gb310,2,none⟩) (Kd.R_types (Kd.R_types HO313.out BK310.out (by decide)) BK309.out (by decide)) (fun _ hk => hk.1.2) (.slice Ao17 t314.length co17)) (fun _ hk => hk.2) (.string a0_0)) (fun _ hk => hk.2) (.slice Ao13 t311.length co13)) (fun _ hk => hk.2) (.slice Ao17 t314.length co17)) (fun _ hk => trivial),by (with_reducible repeat (first|apply Kd.R_alloc|apply Kd.R_drewN|apply Kd.R_drew));exact Kd.R_mono (Kd.R_far (p:=⟨gb309,2,none⟩) (Kd.R_far (p:=⟨gb309,1,none⟩) (Kd.R_far (p:=⟨gb309,0,none⟩) (Kd.R_far (p:=⟨gb310,2,none⟩) (Kd.R_types (Kd.R_types HO316.out BK310.out (by decide)) BK309.out (by decide)) (fun _ hk => hk.1.2) (.slice Ao17 t314.length co17)) (fun _ hk => hk.2) (.string a0_0)) (fun _ hk => hk.2) (.slice Ao13 t311.length co13)) (fun _ hk => hk.2) (.slice Ao17 t314.length co17)) (fun _ hk => trivial),zG_⟩

def laws_toRuleS.l0 : Nat → List (S73) → List (S49) → Int → Option ((List (S49)))
 |0,_,_,_ => none
 |k + 1,x0,x3,x4 => if x4 < (x0.length : Int) then (if 0 ≤ x4 then ((laws_toRule.f k ((rd_T73 x0 x4).f0) ((rd_T73 x0 x4).f1) ((rd_T73 x0 x4).f2)).bind fun bt321 => (if x4 < (x3.length : Int) then (laws_toRuleS.l0 k x0 (x3.set (x4 : Int).toNat (⟨bt321.1,bt321.2.1,bt321.2.2⟩ : S49)) (wrap64 (x4 + 1))) else (none))) else (none)) else (some x3)
def laws_toRuleS.f (k : Nat) (l0 : List (S73)) : Option ((List (S49))):=if 0 ≤ (l0.length : Int) then (if ((l0.length : Int) : Int).toNat ≤ 4398046511104 then (laws_toRuleS.l0 k l0 (List.replicate ((l0.length : Int) : Int).toNat z49) 0) else (none)) else (none)
theorem laws_toRuleS.calls (k : Nat) (A0 : Option Addr) (c0 : Nat) (l0 : List (S73)) (r : List (S49)) (w : World) (hr0 : Kd.C k73 w A0 l0.length l0) (hc0 : l0.length ≤ c0) (h : laws_toRuleS.f k l0 = some r) :
  Calls Tryz.prog 19 #[.slice A0 l0.length c0] w fun e w' => ∃ v0_ : Value,e = .returned (v0_) ∧ Kd.R k49 49 w' w.heap.size (fun _ => True) v0_ r ∧ Below w.heap.size w w':=by
 have hu73:=Tryz.underlying73
 have hu49:=Tryz.underlying49
 have HR0:=zm_ hr0
 have HC0:=zm_ hc0
 clear hr0 hc0
 have HB:=zm_ (Below.refl w.heap.size w)
 have H : (if 0 ≤ (l0.length : Int) then (if ((l0.length : Int) : Int).toNat ≤ 4398046511104 then (laws_toRuleS.l0 k l0 (List.replicate ((l0.length : Int) : Int).toNat z49) 0) else (none)) else (none)) = some r:=h
 clear h
 by_cases c2 : 0 ≤ (l0.length : Int)
 rotate_left
 ·rw [if_neg c2] at H
  cases H


 rw [if_pos c2] at H
 have c2b0:=eq_true c2
 have c2b1:=decide_eq_true c2
 clear c2
 by_cases c3 : ((l0.length : Int) : Int).toNat ≤ 4398046511104
 rotate_left
 ·rw [if_neg c3] at H
  cases H
 rw [if_pos c3] at H
 have c3b0:=eq_true c3
 have c3b1:=decide_eq_true c3
 clear c3
 obtain ⟨y317,hy317⟩ : ∃ y_ : List (S49),y_ = (List.replicate ((l0.length : Int) : Int).toNat z49):=⟨_,rfl⟩
 replace H : (laws_toRuleS.l0 k l0 y317 0) = some r:=by first|(rw [hy317];with_reducible exact H)|(have H2_:=(Option.bind_some _ _).symm.trans H;rw [hy317];with_reducible exact H2_)|(have H2_:=(Option.bind_some _ _).symm.trans H;with_reducible exact H2_)|with_reducible exact H|(rw [hy317];exact H)|exact H
 have Ny317:=zm_ hy317
 clear hy317
 have H':=zm_ H
 clear H
 go_enter Tryz.func19,Tryz.ntmps19
 go_wp2_with (first|((with_reducible refine gate_dst (N:=7) rfl ?_);refine Kd.R_make k49 _ 49 rfl (N:=7) rfl 27 _ _ rfl (l0.length : Int) rfl rfl Tryz.underlying27 (.agg #[(.string ⟨#[]⟩),(.slice none 0 0),(.slice none 0 0)]) 64 info49 rfl (by decide) (by omega) z49 (ok:=fun _ => True) (okp:=fun _ => True) (k49_mkM _ _ _ z49 (Kd.R_nil _ _ _ _ _) (Kd.R_nil _ _ _ _ _)) (fun _ hk => hk) trivial (zo_) (Nat.le_trans (Nat.mul_le_mul_right _ (zo_ : (l0.length : Int).toNat ≤ 4398046511104)) (by omega)) (Below.refl _ _) (Nat.le_refl _) ?_;intro v318 w4 ho5 hb hg_ hnew_;clear hg_ hnew_;(first|rw [← Ny317.out] at ho5|(simp only [Int.reduceToNat] at ho5;rw [← Ny317.out] at ho5));have n0_:=zm_ (Kd.R_lower ho5 (below_size zB_));have n1_:=zm_ (below_step zB_ hb);clear HB;have HO319:=n0_;have HB:=n1_;clear n0_ n1_;clear hb ho5))
 go_loopg [4] k (fun kq v4 w' => ∃ (x3_1 : List (S49)) (x4_1 : Int),v4 = .int .i64 x4_1 ∧ Aside0 (laws_toRuleS.l0 kq l0 x3_1 x4_1 = some r) ∧ Aside0 (kq ≤ k) ∧ Aside0 (Kd.R k49 49 w' w.heap.size (fun _ => True) v318 x3_1) ∧ Aside0 (Below w.heap.size w w'))
 case atStart => exact ⟨(y317),(0),zV_,H',⟨Nat.le_refl _⟩,⟨zO_⟩,⟨zG_⟩⟩
 case round =>
  clear H'
  obtain ⟨x3_1,x4_1,rfl,HA,HK1,HO_3,HB⟩:=hrel
  cases gk with
  |zero => exact absurd HA.out (by simp [laws_toRuleS.l0])
  |succ k1 =>
   have H:=HA.out
   clear HA
   simp only [laws_toRuleS.l0] at H
   by_cases c6 : x4_1 < (l0.length : Int)
   rotate_left
   ·rw [if_neg c6] at H
    have c6b0:=decide_eq_false c6
    clear c6
    obtain rfl:=zi_ H
    go_wp2
    go_ret
    exact ⟨_,by first|rfl|(simp [errW_none,errW_some] <;> rfl)|(simp [*,errW_none,errW_some] <;> rfl),by (with_reducible repeat (first|apply Kd.R_alloc|apply Kd.R_drewN|apply Kd.R_drew));exact HO_3.out,zG_⟩
   rw [if_pos c6] at H
   have c6b0:=decide_eq_true c6
   clear c6
   by_cases c7 : 0 ≤ x4_1
   rotate_left
   ·rw [if_neg c7] at H
    cases H
   rw [if_pos c7] at H
   have c7b0:=decide_eq_true c7
   clear c7
   obtain ⟨⟨t321,t322,t325⟩,A8,H⟩:=zJ_ H
   try dsimp only at H
   by_cases c9 : x4_1 < (x3_1.length : Int)
   rotate_left
   ·rw [if_neg c9] at H
    cases H
   rw [if_pos c9] at H
   have c9b0:=decide_eq_true c9
   clear c9
   obtain ⟨y328,hy328⟩ : ∃ y_ : List (S49),y_ = (x3_1.set (x4_1 : Int).toNat (⟨t321,t322,t325⟩ : S49)):=⟨_,rfl⟩
   replace H : (laws_toRuleS.l0 k1 l0 y328 (wrap64 (x4_1 + 1))) = some r:=by first|(rw [hy328];with_reducible exact H)|(have H2_:=(Option.bind_some _ _).symm.trans H;rw [hy328];with_reducible exact H2_)|(have H2_:=(Option.bind_some _ _).symm.trans H;with_reducible exact H2_)|with_reducible exact H|(rw [hy328];exact H)|exact H
   have Ny328:=zm_ hy328
   clear hy328
   have H':=zm_ H
   clear H
   have p320 : 0 ≤ (x4_1 : Int):=zo_
   have q320 : x4_1 < (l0.length : Int):=zo_
   obtain ⟨ad320,A320_1,c320_1,A320_2,c320_2,e320,hx320_0,hx320_1,hx320_2,hl320_1,hi320_1,hl320_2,hi320_2⟩:=at_T73 HR0.out x4_1 p320 q320
   cases e320
   replace hx320_0:=(HB.out.cell (zb_ w _ hx320_0)).trans hx320_0
   replace hx320_1:=(HB.out.cell (zb_ w _ hx320_1)).trans hx320_1
   replace hx320_2:=(HB.out.cell (zb_ w _ hx320_2)).trans hx320_2
   have HR320_1:=zm_ hi320_1
   have HC320_1:=zm_ hl320_1
   clear hi320_1 hl320_1
   have HR320_2:=zm_ hi320_2
   have HC320_2:=zm_ hl320_2
   clear hi320_2 hl320_2
   replace p320:=eq_true p320
   replace q320:=eq_true q320
   go_wp2_with (first|((with_reducible refine gate_callee (f:=37) rfl ?_);refine goesL_ (some 20) rfl rfl Tryz.func37 (by kernel_rfl) rfl #[.agg #[.string ((rd_T73 l0 x4_1).f0),.slice A320_1 ((rd_T73 l0 x4_1).f1).length c320_1,.slice A320_2 ((rd_T73 l0 x4_1).f2).length c320_2]] rfl zq_ ?_;(with_reducible refine (laws_toRule.calls k1 ((rd_T73 l0 x4_1).f0) _ _ ((rd_T73 l0 x4_1).f1) _ _ ((rd_T73 l0 x4_1).f2) t321 t322 t325 _ ?side1 ?side2 ?side3 ?side4 A8.out).mono ?_);(case side1 => exact zP_);(case side2 => exact HC320_1.out);(case side3 => exact zP_);(case side4 => exact HC320_2.out);rintro e w11 ⟨v323,v326,rfl,ho0,ho1,hb⟩;refine ⟨_,rfl,?_⟩;have n0_:=zm_ (Kd.R_mono (Kd.R_told (Kd.R_told (Kd.R_old (by (with_reducible repeat (first|apply Kd.R_alloc|apply Kd.R_drewN|apply Kd.R_drew));exact HO_3.out) hb) (Kd.R_base ho0)) (Kd.R_base ho1)) (fun _ h_ => h_.1));have n1_:=zm_ (Kd.R_lower ho0 (below_size zB_));have n2_:=zm_ (Kd.R_lower ho1 (below_size zB_));have n3_:=zm_ (below_step zB_ hb);clear HO_3;clear HB;have HO_3:=n0_;have HO324:=n1_;have HO327:=n2_;have HB:=n3_;clear n0_ n1_ n2_ n3_;(try clear hb);(try clear hb2);(try clear hk);(try clear hi);(try clear ho0);(try clear ho1);have p10 : 0 ≤ (x4_1 : Int):=zo_;have q10 : (x4_1 : Int) < ((x3_1.length : Int) : Int):=zo_;obtain ⟨go10,co10,eo10,gb10,gl10,cl10,HG10⟩:=Kd.R_form HO_3.out (by omega);(first|cases eo10|(injection eo10 with ea_ en_ ec_;(first|subst ea_|(injection ea_ with ea_;subst ea_));subst ec_;clear en_));have GB10:=zm_ gb10;have GG10:=zm_ HG10;clear gb10 gl10 HG10;obtain ⟨ce10,hcl10,hM10,hcc10,hfr10⟩:=Kd.R_elem HO_3.out z49 (x4_1 : Int) p10 q10;obtain ⟨ve10_1,ve10_2,rfl,ge10_1,ge10_2⟩:=k49_openM hM10;have hx10_0 : w11.cell? ⟨go10,(x4_1 : Int).toNat * 3,none⟩ = some (.string ((rd_T49 x3_1 x4_1).f0)):=hcc10 0 _ rfl;have hx10_1 : w11.cell? ⟨go10,(x4_1 : Int).toNat * 3 + 1,none⟩ = some (ve10_1):=hcc10 1 _ rfl;have hx10_2 : w11.cell? ⟨go10,(x4_1 : Int).toNat * 3 + 2,none⟩ = some (ve10_2):=hcc10 2 _ rfl;have hf10_0 : w11.frozen? ⟨go10,(x4_1 : Int).toNat * 3,none⟩ = false:=hfr10 0;have hf10_1 : w11.frozen? ⟨go10,(x4_1 : Int).toNat * 3 + 1,none⟩ = false:=hfr10 1;have hf10_2 : w11.frozen? ⟨go10,(x4_1 : Int).toNat * 3 + 2,none⟩ = false:=hfr10 2;clear hcl10 hcc10 hfr10 hM10;replace p10:=eq_true p10;replace q10:=eq_true q10;have n_:=zm_ (Kd.R_mono (ok':=(fun k_ => some k_ ≠ (v323 : Value).ownBlock ∧ some k_ ≠ (v326 : Value).ownBlock)) HO_3.out (fun k_ hk => ⟨hk.1.2,hk.2⟩));clear HO_3;have HO_3:=n_;clear n_;have HX12:=zm_ (show Kd.R k49 49 w11 w.heap.size (fun _ => True) (.slice (some ⟨go10,0,none⟩) x3_1.length co10) x3_1 from zt12_16);obtain ⟨ce12,hcl12,hM12,hcc12,hfr12⟩:=Kd.R_elem HX12.out z49 (x4_1 : Int) (zo_) zt12_4;obtain ⟨ve12_1,ve12_2,rfl,ge12_1,ge12_2⟩:=k49_openM hM12;have HP12:=Kd.R_seg HX12.out (x4_1 : Int) (zo_) zt12_4 (seg:=[.string t321,v323,v326]) (j:=0) hcl12 hcc12 (show 3 ≤ 3 from by decide) (x':=(⟨t321,t322,t325⟩ : S49)) (k49_mkM _ _ _ (⟨t321,t322,t325⟩ : S49) (Kd.R_mono (Kd.R_apart' (HO324.out) (Kd.R_typed HO_3.out) (by decide)) (fun k_ hk => ⟨trivial,fun e_ => (hk.2) (by rw [e_];rfl)⟩)) (Kd.R_mono (Kd.R_apart' (HO327.out) (Kd.R_typed HO_3.out) (by decide)) (fun k_ hk => ⟨trivial,fun e_ => (hk.2) (by rw [e_];rfl)⟩))) (fun _ hk => hk);have hx12_0:=hcc12 0 _ rfl;(try simp only [show (k49).sz = 3 from rfl,Nat.mul_one,Nat.add_zero] at hx12_0);have hf12_0:=hfr12 0;(try simp only [show (k49).sz = 3 from rfl,Nat.mul_one,Nat.add_zero] at hf12_0);have hx12_1:=hcc12 1 _ rfl;(try simp only [show (k49).sz = 3 from rfl,Nat.mul_one,Nat.add_zero] at hx12_1);have hf12_1:=hfr12 1;(try simp only [show (k49).sz = 3 from rfl,Nat.mul_one,Nat.add_zero] at hf12_1);have hx12_2:=hcc12 2 _ rfl;(try simp only [show (k49).sz = 3 from rfl,Nat.mul_one,Nat.add_zero] at hx12_2);have hf12_2:=hfr12 2;(try simp only [show (k49).sz = 3 from rfl,Nat.mul_one,Nat.add_zero] at hf12_2);clear hcl12 hcc12 hfr12 hM12)|((with_reducible refine gate_store (t:=49) (p:=21) rfl ?_);(first|have st1_:=store_own (P:=Tryz.prog) HO324.out|have st1_:=store_own (P:=Tryz.prog) (Kd.S_R HO324.out));(first|have st2_:=store_own (P:=Tryz.prog) HO327.out|have st2_:=store_own (P:=Tryz.prog) (Kd.S_R HO327.out));refine store_event (t:=49) (p:=21) (v:=?vo_w13) (w1:=(((w11.setCell ⟨go10,(x4_1 : Int).toNat * 3,none⟩ (.string t321)).setCell ⟨go10,(x4_1 : Int).toNat * 3 + 1,none⟩ (v323)).setCell ⟨go10,(x4_1 : Int).toNat * 3 + 2,none⟩ (v326))) ?hg ?ho ?hn ?hr ?_;(case ho => rfl);(case hg => rfl);(case hn => rfl);(case hr => first|(go_simp;done)|(go_simp;rfl));intro w13 hw;have hg : w11.grownBy w13 (some go10):=(by rw [hw];exact HP12.2);have hp_ : Kd.R k49 49 w13 w.heap.size (fun _ => True) (.slice (some ⟨go10,0,none⟩) x3_1.length co10) y328:=(by rw [hw,Ny328.out];exact HP12.1);clear HP12;have n0_:=zm_ (hp_);have n1_:=zm_ ((by rw [hw];exact zs_ (zs_ (zs_ (HB.out) GB10.out) GB10.out) GB10.out : Below w.heap.size w w13));clear HO_3;clear HB;clear HO324;clear HO327;have HO_3:=n0_;have HB:=n1_;clear n0_ n1_;clear hg hw hp_))
   go_roundg k1
   case measure => have:=HK1.out;omega
   case rel => exact ⟨(y328),(wrap64 (x4_1 + 1)),zV_,H',⟨by have:=HK1.out;omega⟩,⟨zO_⟩,⟨zG_⟩⟩
def laws_toGrammar.f (k : Nat) (l0_0 : List (S73)) : Option ((List (S49))):=(laws_toRuleS.f k l0_0).bind fun t332 => (some t332)
theorem laws_toGrammar.calls (k : Nat) (A0_0 : Option Addr) (c0_0 : Nat) (l0_0 : List (S73)) (r : List (S49)) (w : World) (hr0_0 : Kd.C k73 w A0_0 l0_0.length l0_0) (hc0_0 : l0_0.length ≤ c0_0) (h : laws_toGrammar.f k l0_0 = some r) :
  Calls Tryz.prog 7 #[.agg #[.slice A0_0 l0_0.length c0_0]] w fun e w' => ∃ v0_ : Value,e = .returned (.agg #[v0_]) ∧ Kd.R k49 49 w' w.heap.size (fun _ => True) v0_ r ∧ Below w.heap.size w w':=by
 have hu24:=Tryz.underlying24
 have hu29:=Tryz.underlying29
 have HR0_0:=zm_ hr0_0
 have HC0_0:=zm_ hc0_0
 clear hr0_0 hc0_0
 have HB:=zm_ (Below.refl w.heap.size w)
 have H : ((laws_toRuleS.f k l0_0).bind fun t332 => (some t332)) = some r:=h
 clear h
 obtain ⟨t332,A2,H⟩:=zJ_ H
 try dsimp only at H
 obtain rfl:=zi_ H
 go_enter Tryz.func7,Tryz.ntmps7
 go_wp2_with (first|((with_reducible refine gate_dst (N:=1) rfl ?_);refine box_event ?hg (N:=1) ?hd (cs:=#[.slice A0_0 l0_0.length c0_0]) (t:=24) ?hr ?_;(case hd => rfl);(case hg => rfl);(case hr => first|(go_simp;done)|(go_simp;rfl));intro gb329 hg w3 hbox hb;have n0_:=zm_ (below_step zB_ hb);have n1_:=zm_ (hbox);have n2_:=zm_ ((by rw [hg];exact (below_size zB_) : w.heap.size ≤ gb329));have n3_:=zm_ ((by rw [hg];exact (below_size zB_) : w.heap.size ≤ gb329));clear HB;have HB:=n0_;have BK329:=n1_;have GW329:=n2_;have GE329:=n3_;clear n0_ n1_ n2_ n3_;clear hb hbox hg)|((with_reducible refine gate_dst (N:=2) rfl ?_);refine box_event ?hg (N:=2) ?hd (cs:=#[.slice none 0 0]) (t:=29) ?hr ?_;(case hd => rfl);(case hg => rfl);(case hr => first|(go_simp;done)|(go_simp;rfl));intro gb330 hg w4 hbox hb;have n0_:=zm_ (blk_below (g:=gb329) (o:=.cells #[.slice A0_0 l0_0.length c0_0] 24 (0,0)) zK_ hb);have n1_:=zm_ (below_step zG_ hb);have n2_:=zm_ (hbox);have n3_:=zm_ ((by rw [hg];exact (below_size zG_) : w.heap.size ≤ gb330));have n4_:=zm_ ((by rw [hg];exact (below_size zG_) : w.heap.size ≤ gb330));have n5_:=zm_ ((by rw [hg];exact Nat.ne_of_lt (blk_lt (g:=gb329) (o:=.cells #[.slice A0_0 l0_0.length c0_0] 24 (0,0)) zK_) : gb329 ≠ gb330));have n6_:=zm_ ((by rw [hg];exact Nat.ne_of_gt (blk_lt (g:=gb329) (o:=.cells #[.slice A0_0 l0_0.length c0_0] 24 (0,0)) zK_) : gb330 ≠ gb329));clear BK329;clear HB;have BK329:=n0_;have HB:=n1_;have BK330:=n2_;have GW330:=n3_;have GE330:=n4_;have NB329_330:=n5_;have NB330_329:=n6_;clear n0_ n1_ n2_ n3_ n4_ n5_ n6_;clear hb hbox hg)|((with_reducible refine gate_dst (N:=3) rfl ?_);refine box_event ?hg (N:=3) ?hd (cs:=#[.slice none 0 0]) (t:=29) ?hr ?_;(case hd => rfl);(case hg => rfl);(case hr => first|(go_simp;done)|(go_simp;rfl));intro gb331 hg w5 hbox hb;have n0_:=zm_ (blk_below (g:=gb329) (o:=.cells #[.slice A0_0 l0_0.length c0_0] 24 (0,0)) zK_ hb);have n1_:=zm_ (blk_below (g:=gb330) (o:=.cells #[.slice none 0 0] 29 (0,0)) zK_ hb);have n2_:=zm_ (below_step zG_ hb);have n3_:=zm_ (hbox);have n4_:=zm_ ((by rw [hg];exact (below_size zG_) : w.heap.size ≤ gb331));have n5_:=zm_ ((by rw [hg];exact (below_size zG_) : w.heap.size ≤ gb331));have n6_:=zm_ ((by rw [hg];exact Nat.ne_of_lt (blk_lt (g:=gb329) (o:=.cells #[.slice A0_0 l0_0.length c0_0] 24 (0,0)) zK_) : gb329 ≠ gb331));have n7_:=zm_ ((by rw [hg];exact Nat.ne_of_gt (blk_lt (g:=gb329) (o:=.cells #[.slice A0_0 l0_0.length c0_0] 24 (0,0)) zK_) : gb331 ≠ gb329));have n8_:=zm_ ((by rw [hg];exact Nat.ne_of_lt (blk_lt (g:=gb330) (o:=.cells #[.slice none 0 0] 29 (0,0)) zK_) : gb330 ≠ gb331));have n9_:=zm_ ((by rw [hg];exact Nat.ne_of_gt (blk_lt (g:=gb330) (o:=.cells #[.slice none 0 0] 29 (0,0)) zK_) : gb331 ≠ gb330));clear BK329;clear BK330;clear HB;have BK329:=n0_;have BK330:=n1_;have HB:=n2_;have BK331:=n3_;have GW331:=n4_;have GE331:=n5_;have NB329_331:=n6_;have NB331_329:=n7_;have NB330_331:=n8_;have NB331_330:=n9_;clear n0_ n1_ n2_ n3_ n4_ n5_ n6_ n7_ n8_ n9_;clear hb hbox hg;have hnb6:=NB329_330.out;have hnc6:=NB330_329.out;have hnb7:=NB329_331.out;have hnc7:=NB331_329.out;have hcz8_0 : w5.cell? ⟨gb329,0,none⟩ = some (.slice A0_0 l0_0.length c0_0):=(zc_ BK329.out 0).trans rfl;have hfz8_0:=zf_ BK329.out 0)|((with_reducible refine gate_callee (f:=19) rfl ?_);refine goesL_ (some 6) rfl rfl Tryz.func19 (by kernel_rfl) rfl #[.slice A0_0 l0_0.length c0_0] rfl zq_ ?_;(with_reducible refine (laws_toRuleS.calls k _ _ l0_0 t332 _ ?side1 ?side2 A2.out).mono ?_);(case side1 => exact zP_);(case side2 => exact HC0_0.out);rintro e w9 ⟨v333,rfl,ho0,hb⟩;refine ⟨_,rfl,?_⟩;have n0_:=zm_ (Kd.R_lower ho0 (below_size zG_));have n1_:=zm_ (blk_below (g:=gb329) (o:=.cells #[.slice A0_0 l0_0.length c0_0] 24 (0,0)) zK_ hb);have n2_:=zm_ (blk_below (g:=gb330) (o:=.cells #[.slice none 0 0] 29 (0,0)) zK_ hb);have n3_:=zm_ (blk_below (g:=gb331) (o:=.cells #[.slice none 0 0] 29 (0,0)) zK_ hb);have n4_:=zm_ (below_step zG_ hb);clear BK329;clear BK330;clear BK331;clear HB;have HO334:=n0_;have BK329:=n1_;have BK330:=n2_;have BK331:=n3_;have HB:=n4_;clear n0_ n1_ n2_ n3_ n4_;(try clear hb);(try clear hb2);(try clear hk);(try clear hi);(try clear ho0);obtain ⟨Ao10,co10,eo10⟩:=Kd.R_slice HO334.out;subst eo10;have hnb11:=NB331_330.out;have hnc11:=NB330_331.out;have hcz12_0 : w9.cell? ⟨gb331,0,none⟩ = some (.slice none 0 0):=(zc_ BK331.out 0).trans rfl;have hfz12_0:=zf_ BK331.out 0;have hcz13_0 : w9.cell? ⟨gb330,0,none⟩ = some (.slice none 0 0):=(zc_ BK330.out 0).trans rfl;have hfz13_0:=zf_ BK330.out 0))
 refine bodyPost_ret (results_cell_row rfl _ _ gb330 29 #[.slice Ao10 t332.length co10] (0,0) _ rfl (by (with_reducible repeat first|refine zl_ ?_ _|refine zr_ ?_|refine zk_ ?_ _);refine blk_put (cs:=#[.slice none 0 0]) ?_ 0 _ rfl;(with_reducible repeat first|refine zl_ ?_ _|refine zr_ ?_|refine zk_ ?_ _);refine blk_far ?_ NB330_331.out _;(with_reducible repeat first|refine zl_ ?_ _|refine zr_ ?_|refine zk_ ?_ _);exact BK330.out) Tryz.underlying29 rfl (by kernel_rfl)) rfl ?_
 exact ⟨_,by first|rfl|(simp [errW_none,errW_some] <;> rfl)|(simp [*,errW_none,errW_some] <;> rfl),by (with_reducible repeat (first|apply Kd.R_alloc|apply Kd.R_drewN|apply Kd.R_drew));exact Kd.R_mono (Kd.R_far (p:=⟨gb330,0,none⟩) (Kd.R_far (p:=⟨gb331,0,none⟩) (Kd.R_types (Kd.R_types HO334.out BK331.out (by decide)) BK330.out (by decide)) (fun _ hk => hk.1.2) (.slice Ao10 t332.length co10)) (fun _ hk => hk.2) (.slice Ao10 t332.length co10)) (fun _ hk => trivial),zG_⟩

def impl_within.f (a0 : Int) (a1 : Int) (a2 : Int) : Option (Bool):=if a0 ≥ a1 then (some (decide (a0 ≤ a2))) else (some false)
theorem impl_within.calls (a0 : Int) (a1 : Int) (a2 : Int) (r : Bool) (w : World) (h : impl_within.f a0 a1 a2 = some r) :
  Calls Tryz.prog 20 #[.int .i64 a0,.int .i64 a1,.int .i64 a2] w fun e w' => e = .returned (.bool r) ∧ Drawn0 w w':=by
 have H : (if a0 ≥ a1 then (some (decide (a0 ≤ a2))) else (some false)) = some r:=h
 clear h
 by_cases c4 : a0 ≥ a1
 ·rw [if_pos c4] at H
  have c4b0 : decide (a1 ≤ a0) = true:=decide_eq_true c4
  clear c4
  obtain rfl:=zi_ H
  go_enter Tryz.func20,Tryz.ntmps20
  go_wp2
  go_ret
  exact zX_
 rw [if_neg c4] at H
 have c4b0 : decide (a1 ≤ a0) = false:=decide_eq_false c4
 clear c4
 obtain rfl:=zi_ H
 go_enter Tryz.func20,Tryz.ntmps20
 go_wp2
 go_ret
 exact zX_

def impl_isSmall.f (a0 : Int) : Option (Bool):=(impl_within.f (wrap64 (a0)) 97 122).bind fun t335 => (some t335)
theorem impl_isSmall.calls (a0 : Int) (r : Bool) (w : World) (h : impl_isSmall.f a0 = some r) :
  Calls Tryz.prog 72 #[.int .u8 a0] w fun e w' => e = .returned (.bool r) ∧ Drawn0 w w':=by
 have H : ((impl_within.f (wrap64 (a0)) 97 122).bind fun t335 => (some t335)) = some r:=h
 clear h
 obtain ⟨t335,A2,H⟩:=zJ_ H
 try dsimp only at H
 obtain rfl:=zi_ H
 go_enter Tryz.func72,Tryz.ntmps72
 go_wp2_with (first|((with_reducible refine gate_callee (f:=20) rfl ?_);refine goesL_ (some 5) rfl rfl Tryz.func20 (by kernel_rfl) rfl #[.int .i64 (wrap64 (a0)),.int .i64 97,.int .i64 122] rfl zq_ ?_;(with_reducible refine (impl_within.calls (wrap64 (a0)) 97 122 t335 _ A2.out).mono ?_);rintro e w' ⟨rfl,⟨nd,rfl⟩⟩;refine ⟨_,rfl,?_⟩))
 go_ret
 exact zX_

def impl_isLetter.f (a0 : Int) : Option (Bool):=(impl_isSmall.f a0).bind fun t336 => (if t336 = true then (some true) else ((impl_within.f (wrap64 (a0)) 65 90).bind fun t337 => (some t337)))
theorem impl_isLetter.calls (a0 : Int) (r : Bool) (w : World) (h : impl_isLetter.f a0 = some r) :
  Calls Tryz.prog 38 #[.int .u8 a0] w fun e w' => e = .returned (.bool r) ∧ Drawn0 w w':=by
 have H : ((impl_isSmall.f a0).bind fun t336 => (if t336 = true then (some true) else ((impl_within.f (wrap64 (a0)) 65 90).bind fun t337 => (some t337)))) = some r:=h
 clear h
 obtain ⟨t336,A2,H⟩:=zJ_ H
 try dsimp only at H
 by_cases c3 : t336 = true
 ·subst c3
  rw [if_pos rfl] at H
  obtain rfl:=zi_ H
  go_enter Tryz.func38,Tryz.ntmps38
  go_wp2_with (first|((with_reducible refine gate_callee (f:=72) rfl ?_);refine goesL_ (some 4) rfl rfl Tryz.func72 (by kernel_rfl) rfl #[.int .u8 a0] rfl zq_ ?_;(with_reducible refine (impl_isSmall.calls a0 true _ A2.out).mono ?_);rintro e w' ⟨rfl,⟨nd,rfl⟩⟩;refine ⟨_,rfl,?_⟩))
  go_ret
  exact zX_
 replace c3:=Bool.eq_false_iff.mpr c3
 subst c3
 rw [zF_] at H
 obtain ⟨t337,A4,H⟩:=zJ_ H
 try dsimp only at H
 obtain rfl:=zi_ H
 go_enter Tryz.func38,Tryz.ntmps38
 go_wp2_with (first|((with_reducible refine gate_callee (f:=72) rfl ?_);refine goesL_ (some 4) rfl rfl Tryz.func72 (by kernel_rfl) rfl #[.int .u8 a0] rfl zq_ ?_;(with_reducible refine (impl_isSmall.calls a0 false _ A2.out).mono ?_);rintro e w' ⟨rfl,⟨nd,rfl⟩⟩;refine ⟨_,rfl,?_⟩)|(go_at_call 20;(with_reducible refine (impl_within.calls (wrap64 (a0)) 65 90 t337 _ A4.out).mono ?_);rintro e w' ⟨rfl,⟨nd,rfl⟩⟩))
 go_ret
 exact zX_

def impl_isFigure.f (a0 : Int) : Option (Bool):=(impl_within.f (wrap64 (a0)) 48 57).bind fun t338 => (some t338)
theorem impl_isFigure.calls (a0 : Int) (r : Bool) (w : World) (h : impl_isFigure.f a0 = some r) :
  Calls Tryz.prog 39 #[.int .u8 a0] w fun e w' => e = .returned (.bool r) ∧ Drawn0 w w':=by
 have H : ((impl_within.f (wrap64 (a0)) 48 57).bind fun t338 => (some t338)) = some r:=h
 clear h
 obtain ⟨t338,A2,H⟩:=zJ_ H
 try dsimp only at H
 obtain rfl:=zi_ H
 go_enter Tryz.func39,Tryz.ntmps39
 go_wp2_with (first|((with_reducible refine gate_callee (f:=20) rfl ?_);refine goesL_ (some 5) rfl rfl Tryz.func20 (by kernel_rfl) rfl #[.int .i64 (wrap64 (a0)),.int .i64 48,.int .i64 57] rfl zq_ ?_;(with_reducible refine (impl_within.calls (wrap64 (a0)) 48 57 t338 _ A2.out).mono ?_);rintro e w' ⟨rfl,⟨nd,rfl⟩⟩;refine ⟨_,rfl,?_⟩))
 go_ret
 exact zX_

def impl_RuleName.l0 : Nat → ByteArray → Int → Int → Option (Bool)
 |0,_,_,_ => none
 |k + 1,x0,x5,x6 => if x6 < x5 then (if 0 ≤ x6 then (if x6 < (x0.size : Int) then ((impl_isLetter.f (bt x0 x6)).bind fun t340 => (if t340 = true then (impl_RuleName.l0 k x0 x5 (wrap64 (x6 + 1))) else (if x6 = 0 then (some false) else ((impl_isFigure.f (bt x0 x6)).bind fun t341 => (if t341 = true then (impl_RuleName.l0 k x0 x5 (wrap64 (x6 + 1))) else (some false)))))) else (none)) else (none)) else ((impl_within.f (x0.size : Int) 1 6).bind fun t339 => (some t339))
def impl_RuleName.f (k : Nat) (a0 : ByteArray) : Option (Bool):=impl_RuleName.l0 k a0 (a0.size : Int) 0
theorem impl_RuleName.calls (k : Nat) (a0 : ByteArray) (r : Bool) (w : World) (h : impl_RuleName.f k a0 = some r) :
  Calls Tryz.prog 21 #[.string a0] w fun e w' => e = .returned (.bool r) ∧ Drawn0 w w':=by
 have H : (impl_RuleName.l0 k a0 (a0.size : Int) 0) = some r:=h
 clear h
 have H':=zm_ H
 clear H
 go_enter Tryz.func21,Tryz.ntmps21
 go_wp2
 go_loopg [6] k (fun kq v6 w' => ∃ (x6_1 : Int),v6 = .int .i64 x6_1 ∧ Aside0 (impl_RuleName.l0 kq a0 (a0.size : Int) x6_1 = some r) ∧ Aside0 (kq ≤ k) ∧ Drawn0 w w')
 case atStart => exact ⟨(0),zV_,H',⟨Nat.le_refl _⟩,by repeat (first|exact Drawn0.refl _|apply Drawn0.step)⟩
 case round =>
  clear H'
  obtain ⟨x6_1,rfl,HA,HK1,⟨m1,rfl⟩⟩:=hrel
  cases gk with
  |zero => exact absurd HA.out (by simp [impl_RuleName.l0])
  |succ k1 =>
   have H:=HA.out
   clear HA
   simp only [impl_RuleName.l0] at H
   by_cases c2 : x6_1 < (a0.size : Int)
   rotate_left
   ·rw [if_neg c2] at H
    have c2b0:=decide_eq_false c2
    clear c2
    obtain ⟨t339,A12,H⟩:=zJ_ H
    try dsimp only at H
    obtain rfl:=zi_ H
    go_wp2_with (first|((with_reducible refine gate_callee (f:=20) rfl ?_);refine goesL_ (some 28) rfl rfl Tryz.func20 (by kernel_rfl) rfl #[.int .i64 (a0.size : Int),.int .i64 1,.int .i64 6] rfl zq_ ?_;(with_reducible refine (impl_within.calls (a0.size : Int) 1 6 t339 _ A12.out).mono ?_);rintro e w' ⟨rfl,⟨nd,rfl⟩⟩;refine ⟨_,rfl,?_⟩))
    go_ret
    exact zX_



   rw [if_pos c2] at H
   have c2b0:=decide_eq_true c2
   clear c2
   by_cases c3 : 0 ≤ x6_1
   rotate_left
   ·rw [if_neg c3] at H
    cases H
   rw [if_pos c3] at H
   have c3b0:=decide_eq_true c3
   clear c3
   by_cases c4 : x6_1 < (a0.size : Int)
   rotate_left
   ·rw [if_neg c4] at H
    cases H
   rw [if_pos c4] at H
   have c4b0:=decide_eq_true c4
   clear c4
   obtain ⟨t340,A6,H⟩:=zJ_ H
   try dsimp only at H
   by_cases c7 : t340 = true
   ·subst c7
    rw [if_pos rfl] at H
    have H':=zm_ H
    clear H
    have p5 : 0 ≤ (x6_1 : Int):=zo_
    have q5 : x6_1 < (a0.size : Int):=zo_
    have hx5:=bt_at a0 x6_1
    replace p5:=eq_true p5
    replace q5:=eq_true q5
    go_wp2_with (first|((with_reducible refine gate_callee (f:=38) rfl ?_);refine goesL_ (some 12) rfl rfl Tryz.func38 (by kernel_rfl) rfl #[.int .u8 (bt a0 x6_1)] rfl zq_ ?_;(with_reducible refine (impl_isLetter.calls (bt a0 x6_1) true _ A6.out).mono ?_);rintro e w' ⟨rfl,⟨nd,rfl⟩⟩;refine ⟨_,rfl,?_⟩))
    go_roundg k1
    case measure => have:=HK1.out;omega
    case rel => exact ⟨(wrap64 (x6_1 + 1)),zV_,H',⟨by have:=HK1.out;omega⟩,by repeat (first|exact Drawn0.refl _|apply Drawn0.step)⟩
   replace c7:=Bool.eq_false_iff.mpr c7
   subst c7
   rw [zF_] at H
   by_cases c8 : x6_1 = 0
   ·rw [if_pos c8] at H
    have c8b0 : (x6_1 == 0) = true:=beq_iff_eq.mpr c8
    have c8b1 : (x6_1 != 0) = false:=bne_eq_false_iff_eq.mpr c8
    clear c8
    obtain rfl:=zi_ H
    have p5 : 0 ≤ (x6_1 : Int):=zo_
    have q5 : x6_1 < (a0.size : Int):=zo_
    have hx5:=bt_at a0 x6_1
    replace p5:=eq_true p5
    replace q5:=eq_true q5
    go_wp2_with (first|((with_reducible refine gate_callee (f:=38) rfl ?_);refine goesL_ (some 12) rfl rfl Tryz.func38 (by kernel_rfl) rfl #[.int .u8 (bt a0 x6_1)] rfl zq_ ?_;(with_reducible refine (impl_isLetter.calls (bt a0 x6_1) false _ A6.out).mono ?_);rintro e w' ⟨rfl,⟨nd,rfl⟩⟩;refine ⟨_,rfl,?_⟩))
    go_ret
    exact zX_
   rw [if_neg c8] at H
   have c8b0 : (x6_1 == 0) = false:=beq_eq_false_iff_ne.mpr c8
   have c8b1 : (x6_1 != 0) = true:=bne_iff_ne.mpr c8
   obtain ⟨t341,A10,H⟩:=zJ_ H
   try dsimp only at H
   by_cases c11 : t341 = true
   ·subst c11
    rw [if_pos rfl] at H
    have H':=zm_ H
    clear H
    have p5 : 0 ≤ (x6_1 : Int):=zo_
    have q5 : x6_1 < (a0.size : Int):=zo_
    have hx5:=bt_at a0 x6_1
    replace p5:=eq_true p5
    replace q5:=eq_true q5
    have p9 : 0 ≤ (x6_1 : Int):=zo_
    have q9 : x6_1 < (a0.size : Int):=zo_
    have hx9:=bt_at a0 x6_1
    replace p9:=eq_true p9
    replace q9:=eq_true q9
    go_wp2_with (first|((with_reducible refine gate_callee (f:=38) rfl ?_);refine goesL_ (some 12) rfl rfl Tryz.func38 (by kernel_rfl) rfl #[.int .u8 (bt a0 x6_1)] rfl zq_ ?_;(with_reducible refine (impl_isLetter.calls (bt a0 x6_1) false _ A6.out).mono ?_);rintro e w' ⟨rfl,⟨nd,rfl⟩⟩;refine ⟨_,rfl,?_⟩)|(go_at_call 39;(with_reducible refine (impl_isFigure.calls (bt a0 x6_1) true _ A10.out).mono ?_);rintro e w' ⟨rfl,⟨nd,rfl⟩⟩))
    go_roundg k1
    case measure => have:=HK1.out;omega
    case rel => exact ⟨(wrap64 (x6_1 + 1)),zV_,H',⟨by have:=HK1.out;omega⟩,by repeat (first|exact Drawn0.refl _|apply Drawn0.step)⟩
   replace c11:=Bool.eq_false_iff.mpr c11
   subst c11
   rw [zF_] at H
   obtain rfl:=zi_ H
   have p5 : 0 ≤ (x6_1 : Int):=zo_
   have q5 : x6_1 < (a0.size : Int):=zo_
   have hx5:=bt_at a0 x6_1
   replace p5:=eq_true p5
   replace q5:=eq_true q5
   have p9 : 0 ≤ (x6_1 : Int):=zo_
   have q9 : x6_1 < (a0.size : Int):=zo_
   have hx9:=bt_at a0 x6_1
   replace p9:=eq_true p9
   replace q9:=eq_true q9
   go_wp2_with (first|((with_reducible refine gate_callee (f:=38) rfl ?_);refine goesL_ (some 12) rfl rfl Tryz.func38 (by kernel_rfl) rfl #[.int .u8 (bt a0 x6_1)] rfl zq_ ?_;(with_reducible refine (impl_isLetter.calls (bt a0 x6_1) false _ A6.out).mono ?_);rintro e w' ⟨rfl,⟨nd,rfl⟩⟩;refine ⟨_,rfl,?_⟩)|(go_at_call 39;(with_reducible refine (impl_isFigure.calls (bt a0 x6_1) false _ A10.out).mono ?_);rintro e w' ⟨rfl,⟨nd,rfl⟩⟩))
   go_ret
   exact zX_
/-- The place of the first rule of that name,counted from i,or -1. -/
def impl_RuleAt.first (a1 : ByteArray) : List S49 → Int → Int
 |[],_ => -1
 |x :: l,i => if x.f0.toList == a1.toList then i else impl_RuleAt.first a1 l (i + 1)
theorem impl_RuleAt.head (W : World) (x : S49) (cs : List Value) (h : k49.K W x cs) : ∃ u v,cs = [.string x.f0,u,v]:=by
 obtain ⟨c0,c1,rfl,h0,c2,c3,rfl,⟨A2,n2,rfl,_⟩,⟨A3,n3,rfl,_⟩⟩:=h
 have h0' : c0 = [.string x.f0]:=h0
 subst h0'
 exact ⟨_,_,rfl⟩
theorem impl_RuleAt.gives (a1 : ByteArray) (g : Nat) (w W : World) (hB : g < w.heap.size) (hcell : w.cell? ⟨g,0,none⟩ = some (.string a1)) (hb : Below w.heap.size w W) (x : ByteArray) (u v : Value) (hu : u.oneCell' = true) (hv : v.oneCell' = true) :
  Calls Tryz.prog 41 #[.agg #[.string x,u,v],.pointer (some ⟨g,0,none⟩)] W fun e w' => e = .returned (.bool (x.toList == a1.toList)) ∧ Below w.heap.size w w':=by
 have hc : W.cell? ⟨g,0,none⟩ = some (.string a1):=(hb.cell (p:=⟨g,0,none⟩) hB).trans hcell
 have hBW : g < W.heap.size:=Nat.lt_of_lt_of_le hB hb.size
 have hne : g ≠ W.heap.size:=by omega
 go_enter Tryz.func41,Tryz.ntmps41
 go_wp2
 all_goals (go_ret;exact ⟨by simp_all,hb.alloc hb.size _⟩)
theorem impl_RuleAt.first_miss (a1 : ByteArray) (l : List S49) : ∀ (n : Nat) (i : Int),n ≤ l.length → (∀ j,j < n → ((l.getD j z49).f0.toList == a1.toList) = false) → impl_RuleAt.first a1 l i = impl_RuleAt.first a1 (l.drop n) (i + n):=by
 induction l with
 |nil =>
  intro n i hn h
  have : n = 0:=by simpa using hn
  subst this
  simp
 |cons x l ih =>
  intro n i hn h
  match n,hn,h with
  |0,_,_ => simp
  |n + 1,hn,h =>
   have h0:=h 0 (by omega)
   simp only [List.getD_cons_zero] at h0
   rw [impl_RuleAt.first,h0,if_neg (by simp),ih n (i + 1) (by simpa using hn) (fun j hj => by simpa using h (j + 1) (by omega)),List.drop_succ_cons]
   congr 1
   omega
theorem impl_RuleAt.first_all (a1 : ByteArray) (l : List S49) (h : ∀ j,j < l.length → ((l.getD j z49).f0.toList == a1.toList) = false) : impl_RuleAt.first a1 l 0 = -1:=by
 rw [impl_RuleAt.first_miss a1 l l.length 0 (Nat.le_refl _) h,List.drop_length]
 rfl
theorem impl_RuleAt.first_hit (a1 : ByteArray) (l : List S49) (n : Nat) (hn : n < l.length) (h : ∀ j,j < n → ((l.getD j z49).f0.toList == a1.toList) = false) (h1 : ((l.getD n z49).f0.toList == a1.toList) = true) : impl_RuleAt.first a1 l 0 = (n : Int):=by
 rw [impl_RuleAt.first_miss a1 l n 0 (by omega) h,List.drop_eq_getElem_cons hn]
 rw [List.getD_eq_getElem?_getD,List.getElem?_eq_getElem hn,Option.getD_some] at h1
 rw [impl_RuleAt.first,if_pos h1]
 omega
set_option maxHeartbeats 2000000 in
theorem impl_RuleAt.idx (A0 : Option Addr) (c0 : Nat) (l : List S49) (a1 : ByteArray) (g : Nat) (w : World) (hr : Kd.C k49 w A0 l.length l) (hB : g < w.heap.size) (hcell : w.cell? ⟨g,0,none⟩ = some (.string a1)) :
  Calls Tryz.prog 40 #[.slice A0 l.length c0,.func (.func 41) #[] #[.pointer (some ⟨g,0,none⟩)]] w fun e w' => e = .returned (.int .i64 (impl_RuleAt.first a1 l 0)) ∧ Below w.heap.size w w':=by
 have hbig : l.length ≤ 9223372036854775807:=hr.2.1
 have HIT:=impl_RuleAt.first_hit a1 l
 have ALL:=impl_RuleAt.first_all a1 l
 obtain ⟨R,hR⟩ : ∃ R,R = impl_RuleAt.first a1 l 0:=⟨_,rfl⟩
 rw [← hR] at HIT ALL ⊢
 clear hR
 have hget : ∀ j : Nat,j < l.length → ∃ ad,A0 = some ad ∧ ∃ u v : Value,u.oneCell' = true ∧ v.oneCell' = true ∧ ∀ W,Below w.heap.size w W → W.cell? (ad.add (j * 3)) = some (.string (l.getD j z49).f0) ∧
   W.cell? ⟨(ad.add (j * 3)).block,(ad.add (j * 3)).off + 1,none⟩ = some u ∧ W.cell? ⟨(ad.add (j * 3)).block,(ad.add (j * 3)).off + 2,none⟩ = some v:=by
  intro j hj
  obtain ⟨ad,c,hA,hl,hK,hcells⟩:=ReadsRow.get_ hr z49 (j : Int) (by omega) (by omega)
  rw [Int.toNat_natCast] at hK hcells
  have hone:=k49.K_one hK
  obtain ⟨u,v,rfl⟩:=impl_RuleAt.head _ _ _ hK
  have e0 : w.cell? (ad.add (j * 3)) = some (.string (l.getD j z49).f0):=hcells 0 _ rfl
  have e1 : w.cell? (ad.add (j * 3 + 1)) = some u:=hcells 1 _ rfl
  have e2 : w.cell? (ad.add (j * 3 + 2)) = some v:=hcells 2 _ rfl
  have hblk : ad.block < w.heap.size:=by
   have:=zb_ _ _ e0
   rwa [add_block] at this
  have p1 : ad.add (j * 3 + 1) = ⟨(ad.add (j * 3)).block,(ad.add (j * 3)).off + 1,none⟩:=by
   unfold Addr.add
   rw [if_neg (by omega)]
   by_cases h : j * 3 = 0
   ·rw [if_pos h,h]
   rw [if_neg h];rfl
  have p2 : ad.add (j * 3 + 2) = ⟨(ad.add (j * 3)).block,(ad.add (j * 3)).off + 2,none⟩:=by
   unfold Addr.add
   rw [if_neg (by omega)]
   by_cases h : j * 3 = 0
   ·rw [if_pos h,h]
   rw [if_neg h];rfl
  rw [p1] at e1
  rw [p2] at e2
  have hb3 : (ad.add (j * 3)).block < w.heap.size:=by rwa [add_block]
  exact ⟨ad,hA,u,v,hone u (by simp),hone v (by simp),fun W hW => ⟨(hW.cell hb3).trans e0,(hW.cell (p:=⟨(ad.add (j * 3)).block,(ad.add (j * 3)).off + 1,none⟩) hb3).trans e1,(hW.cell (p:=⟨(ad.add (j * 3)).block,(ad.add (j * 3)).off + 2,none⟩) hb3).trans e2⟩⟩
 clear hr
 go_enter Tryz.func40,Tryz.ntmps40
 go_wp2
 go_loopg [5,8] l.length (fun gg _ s8 wr => ∃ kk : Nat,kk ≤ l.length ∧ l.length - kk ≤ gg ∧ s8 = .int .i64 kk ∧ Aside (Below w.heap.size w wr) ∧ Aside (∀ j,j < kk → ((l.getD j z49).f0.toList == a1.toList) = false))
 case atStart => exact ⟨0,Nat.zero_le _,by omega,rfl,Below.refl _ w,fun j hj => absurd hj (Nat.not_lt_zero _)⟩
 case round =>
  obtain ⟨kk,hkk,hg,rfl,BW,A⟩:=hrel
  by_cases hlt : kk < l.length
  rotate_left
  ·have hge : ¬ (kk : Int) < (l.length : Int):=by omega
   go_wp2
   go_ret
   exact ⟨by rw [ALL (fun j hj => A.out j (by omega))];rfl,BW.out⟩

  have hltz : (kk : Int) < (l.length : Int):=by omega
  obtain ⟨ad,rfl,u,v,hu,hv,hload⟩:=hget kk hlt
  obtain ⟨l0,l1,l2⟩:=hload wr BW.out
  have hcall:=impl_RuleAt.gives a1 g w wr hB hcell BW.out (l.getD kk z49).f0 u v hu hv
  clear hget hload
  generalize hy : (l.getD kk z49).f0 = y at l0 hcall
  have B : Aside ((l.getD kk z49).f0 = y):=hy
  clear hy
  cases hq : (y.toList == a1.toList) with
  |true =>
   rw [hq] at hcall
   go_wp2_with (go_at_call 41;refine hcall.mono ?_;rintro e w' ⟨rfl,hb'⟩)
   go_ret
   refine ⟨?_,hb'⟩
   rw [HIT kk hlt A.out (by rw [B.out];exact hq)]
   rfl
  |false =>
   rw [hq] at hcall
   go_wp2_with (go_at_call 41;refine hcall.mono ?_;rintro e w' ⟨rfl,hb'⟩)
   go_roundg (l.length - (kk + 1))
   case measure => omega
   case rel =>
    refine ⟨kk + 1,by omega,Nat.le_refl _,?_,hb',?_⟩
    ·go_num
    ·intro j hj
     by_cases hjk : j = kk
     rotate_left
     ·exact A.out j (by omega)
     subst hjk;rw [B.out];exact hq
def impl_RuleAt.f (l0_0 : List S49) (a1 : ByteArray) : Option Int:=some (impl_RuleAt.first a1 l0_0 0)
theorem impl_RuleAt.calls (A0_0 : Option Addr) (c0_0 : Nat) (l0_0 : List (S49)) (a1 : ByteArray) (r : Int) (w : World) (hr0_0 : Kd.C k49 w A0_0 l0_0.length l0_0) (hc0_0 : l0_0.length ≤ c0_0) (h : impl_RuleAt.f l0_0 a1 = some r) :
  Calls Tryz.prog 22 #[.agg #[.slice A0_0 l0_0.length c0_0],.string a1] w fun e w' => e = .returned (.int .i64 r) ∧ Below w.heap.size w w':=by
 obtain rfl:=Option.some.inj h
 have hcon:=impl_RuleAt.idx A0_0 c0_0 l0_0 a1 (w.heap.size + 1) ((w.alloc (.cells #[.slice A0_0 l0_0.length c0_0] 29)).alloc (.cells #[.string a1] 9))
  (Kd.C_below hr0_0 (((Below.refl _ w).alloc (Nat.le_refl _) _).alloc (by simp) _)) (by simp) (by simp)
 generalize impl_RuleAt.first a1 l0_0 0 = R at hcon ⊢
 go_enter Tryz.func22,Tryz.ntmps22
 go_wp2_with (go_at_call 40;refine hcon.mono ?_;rintro e w' ⟨rfl,hb'⟩)
 go_ret
 exact ⟨rfl,(((Below.refl _ w).alloc (Nat.le_refl _) _).alloc (by simp) _).trans (hb'.mono (by simp;omega))⟩

def impl_VarName.l0 : Nat → ByteArray → Int → Int → Option (Bool)
 |0,_,_,_ => none
 |k + 1,x0,x5,x6 => if x6 < x5 then (if 0 ≤ x6 then (if x6 < (x0.size : Int) then ((impl_isSmall.f (bt x0 x6)).bind fun t342 => (if t342 = true then (impl_VarName.l0 k x0 x5 (wrap64 (x6 + 1))) else (some false))) else (none)) else (none)) else ((impl_within.f (x0.size : Int) 1 4).bind fun t343 => (some t343))
def impl_VarName.f (k : Nat) (a0 : ByteArray) : Option (Bool):=impl_VarName.l0 k a0 (a0.size : Int) 0
theorem impl_VarName.calls (k : Nat) (a0 : ByteArray) (r : Bool) (w : World) (h : impl_VarName.f k a0 = some r) :
  Calls Tryz.prog 42 #[.string a0] w fun e w' => e = .returned (.bool r) ∧ Drawn0 w w':=by
 have H : (impl_VarName.l0 k a0 (a0.size : Int) 0) = some r:=h
 clear h
 have H':=zm_ H
 clear H
 go_enter Tryz.func42,Tryz.ntmps42
 go_wp2
 go_loopg [6] k (fun kq v6 w' => ∃ (x6_1 : Int),v6 = .int .i64 x6_1 ∧ Aside0 (impl_VarName.l0 kq a0 (a0.size : Int) x6_1 = some r) ∧ Aside0 (kq ≤ k) ∧ Drawn0 w w')
 case atStart => exact ⟨(0),zV_,H',⟨Nat.le_refl _⟩,by repeat (first|exact Drawn0.refl _|apply Drawn0.step)⟩
 case round =>
  clear H'
  obtain ⟨x6_1,rfl,HA,HK1,⟨m1,rfl⟩⟩:=hrel
  cases gk with
  |zero => exact absurd HA.out (by simp [impl_VarName.l0])
  |succ k1 =>
   have H:=HA.out
   clear HA
   simp only [impl_VarName.l0] at H
   by_cases c2 : x6_1 < (a0.size : Int)
   rotate_left
   ·rw [if_neg c2] at H
    have c2b0:=decide_eq_false c2
    clear c2
    obtain ⟨t343,A8,H⟩:=zJ_ H
    try dsimp only at H
    obtain rfl:=zi_ H
    go_wp2_with (first|((with_reducible refine gate_callee (f:=20) rfl ?_);refine goesL_ (some 17) rfl rfl Tryz.func20 (by kernel_rfl) rfl #[.int .i64 (a0.size : Int),.int .i64 1,.int .i64 4] rfl zq_ ?_;(with_reducible refine (impl_within.calls (a0.size : Int) 1 4 t343 _ A8.out).mono ?_);rintro e w' ⟨rfl,⟨nd,rfl⟩⟩;refine ⟨_,rfl,?_⟩))
    go_ret
    exact zX_


   rw [if_pos c2] at H
   have c2b0:=decide_eq_true c2
   clear c2
   by_cases c3 : 0 ≤ x6_1
   rotate_left
   ·rw [if_neg c3] at H
    cases H
   rw [if_pos c3] at H
   have c3b0:=decide_eq_true c3
   clear c3
   by_cases c4 : x6_1 < (a0.size : Int)
   rotate_left
   ·rw [if_neg c4] at H
    cases H
   rw [if_pos c4] at H
   have c4b0:=decide_eq_true c4
   clear c4
   obtain ⟨t342,A6,H⟩:=zJ_ H
   try dsimp only at H
   by_cases c7 : t342 = true
   ·subst c7
    rw [if_pos rfl] at H
    have H':=zm_ H
    clear H
    have p5 : 0 ≤ (x6_1 : Int):=zo_
    have q5 : x6_1 < (a0.size : Int):=zo_
    have hx5:=bt_at a0 x6_1
    replace p5:=eq_true p5
    replace q5:=eq_true q5
    go_wp2_with (first|((with_reducible refine gate_callee (f:=72) rfl ?_);refine goesL_ (some 12) rfl rfl Tryz.func72 (by kernel_rfl) rfl #[.int .u8 (bt a0 x6_1)] rfl zq_ ?_;(with_reducible refine (impl_isSmall.calls (bt a0 x6_1) true _ A6.out).mono ?_);rintro e w' ⟨rfl,⟨nd,rfl⟩⟩;refine ⟨_,rfl,?_⟩))
    go_roundg k1
    case measure => have:=HK1.out;omega
    case rel => exact ⟨(wrap64 (x6_1 + 1)),zV_,H',⟨by have:=HK1.out;omega⟩,by repeat (first|exact Drawn0.refl _|apply Drawn0.step)⟩
   replace c7:=Bool.eq_false_iff.mpr c7
   subst c7
   rw [zF_] at H
   obtain rfl:=zi_ H
   have p5 : 0 ≤ (x6_1 : Int):=zo_
   have q5 : x6_1 < (a0.size : Int):=zo_
   have hx5:=bt_at a0 x6_1
   replace p5:=eq_true p5
   replace q5:=eq_true q5
   go_wp2_with (first|((with_reducible refine gate_callee (f:=72) rfl ?_);refine goesL_ (some 12) rfl rfl Tryz.func72 (by kernel_rfl) rfl #[.int .u8 (bt a0 x6_1)] rfl zq_ ?_;(with_reducible refine (impl_isSmall.calls (bt a0 x6_1) false _ A6.out).mono ?_);rintro e w' ⟨rfl,⟨nd,rfl⟩⟩;refine ⟨_,rfl,?_⟩))
   go_ret
   exact zX_
end Go.Proofs.YtkbgmojomgelbaaGreat.MFnExactGrammarOk
