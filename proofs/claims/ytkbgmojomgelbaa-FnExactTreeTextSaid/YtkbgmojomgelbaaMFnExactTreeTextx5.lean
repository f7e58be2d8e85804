import Derived.Test.YtkbgmojomgelbaaMFnExactTreeTextx0
import Derived.Test.YtkbgmojomgelbaaMFnExactTreeTextx3
import Derived.Test.YtkbgmojomgelbaaMFnExactTreeTextx4
namespace Go.Proofs.Ytkbgmojomgelbaa.MFnExactTreeText
open Go.RowKit Go.Proofs.YtkbgmojomgelbaaW.PrintWords Go.Proofs.YtkbgmojomgelbaaW.PrintLast Go.Proofs.YtkbgmojomgelbaaW.PrintMore
attribute [local go_sem] max2_int min2_int max_two min_two max_three min_three max_four min_four
set_option linter.unusedVariables false
set_option linter.unusedSimpArgs false

def laws_toGrammar.f (k : Nat) (l0_0 : List (S61)) : Option ((List (S51))):=(laws_toRuleS.f k l0_0).bind fun t247 => (some t247)
theorem laws_toGrammar.mono : ∀ a0 k,LeO (laws_toGrammar.f k a0) (laws_toGrammar.f (k + 1) a0):=by
 intro a0 k
 unfold laws_toGrammar.f
 repeat' first
   |(with_reducible exact laws_toRuleS.mono _ _)
   |(with_reducible exact LeO.refl _)
   |(with_reducible exact LeO.none _)
   |(with_reducible refine LeO.ite ?_ ?_)
   |(with_reducible refine LeO.bind ?_ (fun _ => ?_))
set_option maxHeartbeats 8000000 in
set_option maxRecDepth 100000 in
theorem laws_toGrammar.calls (k : Nat) (A0_0 : Option Addr) (c0_0 : Nat) (l0_0 : List (S61)) (r : List (S51)) (w : World) (hr0_0 : Kd.C k61 w A0_0 l0_0.length l0_0) (hc0_0 : l0_0.length ≤ c0_0) (h : laws_toGrammar.f k l0_0 = some r) :
  Calls Try.prog 7 #[.agg #[.slice A0_0 l0_0.length c0_0]] w fun e w' => ∃ v0_ : Value,e = .returned (.agg #[v0_]) ∧ Kd.R k51 51 w' w.heap.size (fun _ => True) v0_ r ∧ Below w.heap.size w w':=by
 have hu24:=Try.underlying24
 have hu33:=Try.underlying33
 have HR0_0:=zm_ hr0_0
 have HC0_0:=zm_ hc0_0
 clear hr0_0 hc0_0
 have HB:=zm_ (Below.refl w.heap.size w)
 have H : ((laws_toRuleS.f k l0_0).bind fun t247 => (some t247)) = some r:=h
 clear h
 replace H:=Option.bind_eq_some_iff.mp H
 obtain ⟨t247,A20,H⟩:=H
 replace H : (some t247) = some r:=H
 have A2:=zm_ A20
 clear A20
 obtain rfl:=Option.some.inj H
 go_enter Try.func7,Try.ntmps7
 go_wp2_with (first|((with_reducible refine gate_dst (N:=1) rfl ?_);refine box_event ?hg (N:=1) ?hd (cs:=#[.slice A0_0 l0_0.length c0_0]) (t:=24) ?hr ?_;(case hd => rfl);(case hg => rfl);(case hr => first|(go_simp;done)|(go_simp;rfl));intro gb244 hg w3 hbox hb;have n0_:=zm_ (below_step zB_ hb);have n1_:=zm_ (hbox);have n2_:=zm_ ((by rw [hg];exact (below_size zB_) : w.heap.size ≤ gb244));have n3_:=zm_ ((by rw [hg];exact (below_size zB_) : w.heap.size ≤ gb244));clear HB;have HB:=n0_;have BK244:=n1_;have GW244:=n2_;have GE244:=n3_;clear n0_ n1_ n2_ n3_;clear hb hbox hg)|((with_reducible refine gate_dst (N:=2) rfl ?_);refine box_event ?hg (N:=2) ?hd (cs:=#[.slice none 0 0]) (t:=33) ?hr ?_;(case hd => rfl);(case hg => rfl);(case hr => first|(go_simp;done)|(go_simp;rfl));intro gb245 hg w4 hbox hb;have n0_:=zm_ (blk_below (g:=gb244) (o:=.cells #[.slice A0_0 l0_0.length c0_0] 24 (0,0)) (by (with_reducible repeat first|refine zl_ ?_ _|refine zr_ ?_|refine zk_ ?_ _);exact BK244.out) hb);have n1_:=zm_ (below_step (by repeat (first|(with_reducible first|exact HB.out|apply za_|apply zn_|apply zd_|refine zs_ ?_ GE244.out)|exact HB.out)) hb);have n2_:=zm_ (hbox);have n3_:=zm_ ((by rw [hg];exact (below_size (by repeat (first|(with_reducible first|exact HB.out|apply za_|apply zn_|apply zd_|refine zs_ ?_ GE244.out)|exact HB.out))) : w.heap.size ≤ gb245));have n4_:=zm_ ((by rw [hg];exact (below_size (by repeat (first|(with_reducible first|exact HB.out|apply za_|apply zn_|apply zd_|refine zs_ ?_ GE244.out)|exact HB.out))) : w.heap.size ≤ gb245));have n5_:=zm_ ((by rw [hg];exact Nat.ne_of_lt (blk_lt (g:=gb244) (o:=.cells #[.slice A0_0 l0_0.length c0_0] 24 (0,0)) (by (with_reducible repeat first|refine zl_ ?_ _|refine zr_ ?_|refine zk_ ?_ _);exact BK244.out)) : gb244 ≠ gb245));have n6_:=zm_ ((by rw [hg];exact Nat.ne_of_gt (blk_lt (g:=gb244) (o:=.cells #[.slice A0_0 l0_0.length c0_0] 24 (0,0)) (by (with_reducible repeat first|refine zl_ ?_ _|refine zr_ ?_|refine zk_ ?_ _);exact BK244.out)) : gb245 ≠ gb244));clear BK244;clear HB;have BK244:=n0_;have HB:=n1_;have BK245:=n2_;have GW245:=n3_;have GE245:=n4_;have NB244_245:=n5_;have NB245_244:=n6_;clear n0_ n1_ n2_ n3_ n4_ n5_ n6_;clear hb hbox hg)|((with_reducible refine gate_dst (N:=3) rfl ?_);refine box_event ?hg (N:=3) ?hd (cs:=#[.slice none 0 0]) (t:=33) ?hr ?_;(case hd => rfl);(case hg => rfl);(case hr => first|(go_simp;done)|(go_simp;rfl));intro gb246 hg w5 hbox hb;have n0_:=zm_ (blk_below (g:=gb244) (o:=.cells #[.slice A0_0 l0_0.length c0_0] 24 (0,0)) (by (with_reducible repeat first|refine zl_ ?_ _|refine zr_ ?_|refine zk_ ?_ _);exact BK244.out) hb);have n1_:=zm_ (blk_below (g:=gb245) (o:=.cells #[.slice none 0 0] 33 (0,0)) (by (with_reducible repeat first|refine zl_ ?_ _|refine zr_ ?_|refine zk_ ?_ _);exact BK245.out) hb);have n2_:=zm_ (below_step (by repeat (first|(with_reducible first|exact HB.out|apply za_|apply zn_|apply zd_|refine zs_ ?_ GE244.out|refine zs_ ?_ GE245.out)|exact HB.out)) hb);have n3_:=zm_ (hbox);have n4_:=zm_ ((by rw [hg];exact (below_size (by repeat (first|(with_reducible first|exact HB.out|apply za_|apply zn_|apply zd_|refine zs_ ?_ GE244.out|refine zs_ ?_ GE245.out)|exact HB.out))) : w.heap.size ≤ gb246));have n5_:=zm_ ((by rw [hg];exact (below_size (by repeat (first|(with_reducible first|exact HB.out|apply za_|apply zn_|apply zd_|refine zs_ ?_ GE244.out|refine zs_ ?_ GE245.out)|exact HB.out))) : w.heap.size ≤ gb246));have n6_:=zm_ ((by rw [hg];exact Nat.ne_of_lt (blk_lt (g:=gb244) (o:=.cells #[.slice A0_0 l0_0.length c0_0] 24 (0,0)) (by (with_reducible repeat first|refine zl_ ?_ _|refine zr_ ?_|refine zk_ ?_ _);exact BK244.out)) : gb244 ≠ gb246));have n7_:=zm_ ((by rw [hg];exact Nat.ne_of_gt (blk_lt (g:=gb244) (o:=.cells #[.slice A0_0 l0_0.length c0_0] 24 (0,0)) (by (with_reducible repeat first|refine zl_ ?_ _|refine zr_ ?_|refine zk_ ?_ _);exact BK244.out)) : gb246 ≠ gb244));have n8_:=zm_ ((by rw [hg];exact Nat.ne_of_lt (blk_lt (g:=gb245) (o:=.cells #[.slice none 0 0] 33 (0,0)) (by (with_reducible repeat first|refine zl_ ?_ _|refine zr_ ?_|refine zk_ ?_ _);exact BK245.out)) : gb245 ≠ gb246));have n9_:=zm_ ((by rw [hg];exact Nat.ne_of_gt (blk_lt (g:=gb245) (o:=.cells #[.slice none 0 0] 33 (0,0)) (by (with_reducible repeat first|refine zl_ ?_ _|refine zr_ ?_|refine zk_ ?_ _);exact BK245.out)) : gb246 ≠ gb245));clear BK244;clear BK245;clear HB;have BK244:=n0_;have BK245:=n1_;have HB:=n2_;have BK246:=n3_;have GW246:=n4_;have GE246:=n5_;have NB244_246:=n6_;have NB246_244:=n7_;have NB245_246:=n8_;have NB246_245:=n9_;clear n0_ n1_ n2_ n3_ n4_ n5_ n6_ n7_ n8_ n9_;clear hb hbox hg;have hnb6:=NB244_245.out;have hnc6:=NB245_244.out;have hnb7:=NB244_246.out;have hnc7:=NB246_244.out;have hcz8_0 : w5.cell? ⟨gb244,0,none⟩ = some (.slice A0_0 l0_0.length c0_0):=(zc_ BK244.out 0).trans rfl;have hfz8_0:=zf_ BK244.out 0)|((with_reducible refine gate_callee (f:=15) rfl ?_);refine goesL_ (some 6) rfl rfl Try.func15 (by kernel_rfl) rfl #[.slice A0_0 l0_0.length c0_0] rfl zq_ ?_;(with_reducible refine (laws_toRuleS.calls k _ _ l0_0 t247 _ ?side1 ?side2 A2.out).mono ?_);(case side1 => repeat (first|exact (Kd.C_below HR0_0.out HB.out)|(with_reducible refine Kd.C_alloc ?_ _)|(with_reducible refine Kd.C_drewN ?_ _)|(with_reducible refine Kd.C_drew ?_)));(case side2 => exact HC0_0.out);rintro e w9 ⟨v248,rfl,ho0,hb⟩;refine ⟨_,rfl,?_⟩;have n0_:=zm_ (Kd.R_lower ho0 (below_size (by repeat (first|(with_reducible first|exact HB.out|apply za_|apply zn_|apply zd_|refine zs_ ?_ GE244.out|refine zs_ ?_ GE245.out|refine zs_ ?_ GE246.out)|exact HB.out))));have n1_:=zm_ (blk_below (g:=gb244) (o:=.cells #[.slice A0_0 l0_0.length c0_0] 24 (0,0)) (by (with_reducible repeat first|refine zl_ ?_ _|refine zr_ ?_|refine zk_ ?_ _);exact BK244.out) hb);have n2_:=zm_ (blk_below (g:=gb245) (o:=.cells #[.slice none 0 0] 33 (0,0)) (by (with_reducible repeat first|refine zl_ ?_ _|refine zr_ ?_|refine zk_ ?_ _);exact BK245.out) hb);have n3_:=zm_ (blk_below (g:=gb246) (o:=.cells #[.slice none 0 0] 33 (0,0)) (by (with_reducible repeat first|refine zl_ ?_ _|refine zr_ ?_|refine zk_ ?_ _);exact BK246.out) hb);have n4_:=zm_ (below_step (by repeat (first|(with_reducible first|exact HB.out|apply za_|apply zn_|apply zd_|refine zs_ ?_ GE244.out|refine zs_ ?_ GE245.out|refine zs_ ?_ GE246.out)|exact HB.out)) hb);clear BK244;clear BK245;clear BK246;clear HB;have HO249:=n0_;have BK244:=n1_;have BK245:=n2_;have BK246:=n3_;have HB:=n4_;clear n0_ n1_ n2_ n3_ n4_;(try clear hb);(try clear hb2);(try clear hk);(try clear hi);(try clear ho0);obtain ⟨Ao10,co10,eo10⟩:=Kd.R_slice HO249.out;subst eo10;have hnb11:=NB246_245.out;have hnc11:=NB245_246.out;have hcz12_0 : w9.cell? ⟨gb246,0,none⟩ = some (.slice none 0 0):=(zc_ BK246.out 0).trans rfl;have hfz12_0:=zf_ BK246.out 0;have hcz13_0 : w9.cell? ⟨gb245,0,none⟩ = some (.slice none 0 0):=(zc_ BK245.out 0).trans rfl;have hfz13_0:=zf_ BK245.out 0))
 refine bodyPost_ret (results_cell_row rfl _ _ gb245 33 #[.slice Ao10 t247.length co10] (0,0) _ rfl (by (with_reducible repeat first|refine zl_ ?_ _|refine zr_ ?_|refine zk_ ?_ _);refine blk_put (cs:=#[.slice none 0 0]) ?_ 0 _ rfl;(with_reducible repeat first|refine zl_ ?_ _|refine zr_ ?_|refine zk_ ?_ _);refine blk_far ?_ NB245_246.out _;(with_reducible repeat first|refine zl_ ?_ _|refine zr_ ?_|refine zk_ ?_ _);exact BK245.out) Try.underlying33 rfl (by kernel_rfl)) rfl ?_
 exact ⟨_,by first|rfl|(simp [errW_none,errW_some] <;> rfl)|(simp [*,errW_none,errW_some] <;> rfl),by (with_reducible repeat (first|apply Kd.R_alloc|apply Kd.R_drewN|apply Kd.R_drew));exact Kd.R_mono (Kd.R_far (p:=⟨gb245,0,none⟩) (Kd.R_far (p:=⟨gb246,0,none⟩) (Kd.R_types (Kd.R_types HO249.out BK246.out (by decide)) BK245.out (by decide)) (fun _ hk => hk.1.2) (.slice Ao10 t247.length co10)) (fun _ hk => hk.2) (.slice Ao10 t247.length co10)) (fun _ hk => trivial),by repeat (first|(with_reducible first|exact HB.out|apply za_|apply zn_|apply zd_|refine zs_ ?_ GE244.out|refine zs_ ?_ GE245.out|refine zs_ ?_ GE246.out)|exact HB.out)⟩

def laws_toTreeNode.f (k : Nat) (a0_0 : Int) (a0_1 : Int) (l0_2 : List Int) (a0_3 : Int) (a0_4 : Int) (l0_5 : List Int) : Option (Int × Int × List Int × Int × Int × List Int):=(laws_toIntS.f k l0_2).bind fun t253 => ((laws_toIntS.f k l0_5).bind fun t256 => (some (a0_0,a0_1,t253,a0_3,a0_4,t256)))
theorem laws_toTreeNode.mono : ∀ a0 a1 a2 a3 a4 a5 k,LeO (laws_toTreeNode.f k a0 a1 a2 a3 a4 a5) (laws_toTreeNode.f (k + 1) a0 a1 a2 a3 a4 a5):=by
 intro a0 a1 a2 a3 a4 a5 k
 unfold laws_toTreeNode.f
 repeat' first
   |(with_reducible exact laws_toIntS.mono _ _)
   |(with_reducible exact LeO.refl _)
   |(with_reducible exact LeO.none _)
   |(with_reducible refine LeO.ite ?_ ?_)
   |(with_reducible refine LeO.bind ?_ (fun _ => ?_))
set_option maxHeartbeats 8000000 in
set_option maxRecDepth 100000 in
theorem laws_toTreeNode.calls (k : Nat) (a0_0 : Int) (a0_1 : Int) (A0_2 : Option Addr) (c0_2 : Nat) (l0_2 : List Int) (a0_3 : Int) (a0_4 : Int) (A0_5 : Option Addr) (c0_5 : Nat) (l0_5 : List Int) (r1 : Int) (r2 : Int) (r3 : List Int) (r4 : Int) (r5 : Int) (r6 : List Int) (w : World) (hr0_2 : Kd.C (Kd.int .i64) w A0_2 l0_2.length l0_2) (hc0_2 : l0_2.length ≤ c0_2) (hr0_5 : Kd.C (Kd.int .i64) w A0_5 l0_5.length l0_5) (hc0_5 : l0_5.length ≤ c0_5) (h : laws_toTreeNode.f k a0_0 a0_1 l0_2 a0_3 a0_4 l0_5 = some (r1,r2,r3,r4,r5,r6)) :
  Calls Try.prog 25 #[.agg #[.int .i64 a0_0,.int .i64 a0_1,.slice A0_2 l0_2.length c0_2,.int .i64 a0_3,.int .i64 a0_4,.slice A0_5 l0_5.length c0_5]] w fun e w' => ∃ v2_ v5_ : Value,e = .returned (.agg #[.int .i64 r1,.int .i64 r2,v2_,.int .i64 r4,.int .i64 r5,v5_]) ∧ Kd.R (Kd.int .i64) 3 w' w.heap.size (fun k_ => some k_ ≠ (v5_ : Value).ownBlock) v2_ r3 ∧ Kd.R (Kd.int .i64) 3 w' w.heap.size (fun k_ => some k_ ≠ (v2_ : Value).ownBlock) v5_ r6 ∧ Below w.heap.size w w':=by
 have hu63:=Try.underlying63
 have hu47:=Try.underlying47
 have HR0_2:=zm_ hr0_2
 have HC0_2:=zm_ hc0_2
 clear hr0_2 hc0_2
 have HR0_5:=zm_ hr0_5
 have HC0_5:=zm_ hc0_5
 clear hr0_5 hc0_5
 have HB:=zm_ (Below.refl w.heap.size w)
 have H : ((laws_toIntS.f k l0_2).bind fun t253 => ((laws_toIntS.f k l0_5).bind fun t256 => (some (a0_0,a0_1,t253,a0_3,a0_4,t256)))) = some (r1,r2,r3,r4,r5,r6):=h
 clear h
 replace H:=Option.bind_eq_some_iff.mp H
 obtain ⟨t253,A20,H⟩:=H
 replace H : ((laws_toIntS.f k l0_5).bind fun t256 => (some (a0_0,a0_1,t253,a0_3,a0_4,t256))) = some (r1,r2,r3,r4,r5,r6):=H
 have A2:=zm_ A20
 clear A20
 replace H:=Option.bind_eq_some_iff.mp H
 obtain ⟨t256,A30,H⟩:=H
 replace H : (some (a0_0,a0_1,t253,a0_3,a0_4,t256)) = some (r1,r2,r3,r4,r5,r6):=H
 have A3:=zm_ A30
 clear A30
 simp only [Option.some.injEq,Prod.mk.injEq] at H
 obtain ⟨rfl,rfl,rfl,rfl,rfl,rfl⟩:=H
 go_enter Try.func25,Try.ntmps25
 go_wp2_with (first|((with_reducible refine gate_dst (N:=1) rfl ?_);refine box_event ?hg (N:=1) ?hd (cs:=#[.int .i64 a0_0,.int .i64 a0_1,.slice A0_2 l0_2.length c0_2,.int .i64 a0_3,.int .i64 a0_4,.slice A0_5 l0_5.length c0_5]) (t:=63) ?hr ?_;(case hd => rfl);(case hg => rfl);(case hr => first|(go_simp;done)|(go_simp;rfl));intro gb250 hg w4 hbox hb;have n0_:=zm_ (below_step zB_ hb);have n1_:=zm_ (hbox);have n2_:=zm_ ((by rw [hg];exact (below_size zB_) : w.heap.size ≤ gb250));have n3_:=zm_ ((by rw [hg];exact (below_size zB_) : w.heap.size ≤ gb250));clear HB;have HB:=n0_;have BK250:=n1_;have GW250:=n2_;have GE250:=n3_;clear n0_ n1_ n2_ n3_;clear hb hbox hg)|((with_reducible refine gate_dst (N:=2) rfl ?_);refine box_event ?hg (N:=2) ?hd (cs:=#[.int .i64 0,.int .i64 0,.slice none 0 0,.int .i64 0,.int .i64 0,.slice none 0 0]) (t:=47) ?hr ?_;(case hd => rfl);(case hg => rfl);(case hr => first|(go_simp;done)|(go_simp;rfl));intro gb251 hg w5 hbox hb;have n0_:=zm_ (blk_below (g:=gb250) (o:=.cells #[.int .i64 a0_0,.int .i64 a0_1,.slice A0_2 l0_2.length c0_2,.int .i64 a0_3,.int .i64 a0_4,.slice A0_5 l0_5.length c0_5] 63 (0,0)) (by (with_reducible repeat first|refine zl_ ?_ _|refine zr_ ?_|refine zk_ ?_ _);exact BK250.out) hb);have n1_:=zm_ (below_step (by repeat (first|(with_reducible first|exact HB.out|apply za_|apply zn_|apply zd_|refine zs_ ?_ GE250.out)|exact HB.out)) hb);have n2_:=zm_ (hbox);have n3_:=zm_ ((by rw [hg];exact (below_size (by repeat (first|(with_reducible first|exact HB.out|apply za_|apply zn_|apply zd_|refine zs_ ?_ GE250.out)|exact HB.out))) : w.heap.size ≤ gb251));have n4_:=zm_ ((by rw [hg];exact (below_size (by repeat (first|(with_reducible first|exact HB.out|apply za_|apply zn_|apply zd_|refine zs_ ?_ GE250.out)|exact HB.out))) : w.heap.size ≤ gb251));have n5_:=zm_ ((by rw [hg];exact Nat.ne_of_lt (blk_lt (g:=gb250) (o:=.cells #[.int .i64 a0_0,.int .i64 a0_1,.slice A0_2 l0_2.length c0_2,.int .i64 a0_3,.int .i64 a0_4,.slice A0_5 l0_5.length c0_5] 63 (0,0)) (by (with_reducible repeat first|refine zl_ ?_ _|refine zr_ ?_|refine zk_ ?_ _);exact BK250.out)) : gb250 ≠ gb251));have n6_:=zm_ ((by rw [hg];exact Nat.ne_of_gt (blk_lt (g:=gb250) (o:=.cells #[.int .i64 a0_0,.int .i64 a0_1,.slice A0_2 l0_2.length c0_2,.int .i64 a0_3,.int .i64 a0_4,.slice A0_5 l0_5.length c0_5] 63 (0,0)) (by (with_reducible repeat first|refine zl_ ?_ _|refine zr_ ?_|refine zk_ ?_ _);exact BK250.out)) : gb251 ≠ gb250));clear BK250;clear HB;have BK250:=n0_;have HB:=n1_;have BK251:=n2_;have GW251:=n3_;have GE251:=n4_;have NB250_251:=n5_;have NB251_250:=n6_;clear n0_ n1_ n2_ n3_ n4_ n5_ n6_;clear hb hbox hg)|((with_reducible refine gate_dst (N:=3) rfl ?_);refine box_event ?hg (N:=3) ?hd (cs:=#[.int .i64 0,.int .i64 0,.slice none 0 0,.int .i64 0,.int .i64 0,.slice none 0 0]) (t:=47) ?hr ?_;(case hd => rfl);(case hg => rfl);(case hr => first|(go_simp;done)|(go_simp;rfl));intro gb252 hg w6 hbox hb;have n0_:=zm_ (blk_below (g:=gb250) (o:=.cells #[.int .i64 a0_0,.int .i64 a0_1,.slice A0_2 l0_2.length c0_2,.int .i64 a0_3,.int .i64 a0_4,.slice A0_5 l0_5.length c0_5] 63 (0,0)) (by (with_reducible repeat first|refine zl_ ?_ _|refine zr_ ?_|refine zk_ ?_ _);exact BK250.out) hb);have n1_:=zm_ (blk_below (g:=gb251) (o:=.cells #[.int .i64 0,.int .i64 0,.slice none 0 0,.int .i64 0,.int .i64 0,.slice none 0 0] 47 (0,0)) (by (with_reducible repeat first|refine zl_ ?_ _|refine zr_ ?_|refine zk_ ?_ _);exact BK251.out) hb);have n2_:=zm_ (below_step (by repeat (first|(with_reducible first|exact HB.out|apply za_|apply zn_|apply zd_|refine zs_ ?_ GE250.out|refine zs_ ?_ GE251.out)|exact HB.out)) hb);have n3_:=zm_ (hbox);have n4_:=zm_ ((by rw [hg];exact (below_size (by repeat (first|(with_reducible first|exact HB.out|apply za_|apply zn_|apply zd_|refine zs_ ?_ GE250.out|refine zs_ ?_ GE251.out)|exact HB.out))) : w.heap.size ≤ gb252));have n5_:=zm_ ((by rw [hg];exact (below_size (by repeat (first|(with_reducible first|exact HB.out|apply za_|apply zn_|apply zd_|refine zs_ ?_ GE250.out|refine zs_ ?_ GE251.out)|exact HB.out))) : w.heap.size ≤ gb252));have n6_:=zm_ ((by rw [hg];exact Nat.ne_of_lt (blk_lt (g:=gb250) (o:=.cells #[.int .i64 a0_0,.int .i64 a0_1,.slice A0_2 l0_2.length c0_2,.int .i64 a0_3,.int .i64 a0_4,.slice A0_5 l0_5.length c0_5] 63 (0,0)) (by (with_reducible repeat first|refine zl_ ?_ _|refine zr_ ?_|refine zk_ ?_ _);exact BK250.out)) : gb250 ≠ gb252));have n7_:=zm_ ((by rw [hg];exact Nat.ne_of_gt (blk_lt (g:=gb250) (o:=.cells #[.int .i64 a0_0,.int .i64 a0_1,.slice A0_2 l0_2.length c0_2,.int .i64 a0_3,.int .i64 a0_4,.slice A0_5 l0_5.length c0_5] 63 (0,0)) (by (with_reducible repeat first|refine zl_ ?_ _|refine zr_ ?_|refine zk_ ?_ _);exact BK250.out)) : gb252 ≠ gb250));have n8_:=zm_ ((by rw [hg];exact Nat.ne_of_lt (blk_lt (g:=gb251) (o:=.cells #[.int .i64 0,.int .i64 0,.slice none 0 0,.int .i64 0,.int .i64 0,.slice none 0 0] 47 (0,0)) (by (with_reducible repeat first|refine zl_ ?_ _|refine zr_ ?_|refine zk_ ?_ _);exact BK251.out)) : gb251 ≠ gb252));have n9_:=zm_ ((by rw [hg];exact Nat.ne_of_gt (blk_lt (g:=gb251) (o:=.cells #[.int .i64 0,.int .i64 0,.slice none 0 0,.int .i64 0,.int .i64 0,.slice none 0 0] 47 (0,0)) (by (with_reducible repeat first|refine zl_ ?_ _|refine zr_ ?_|refine zk_ ?_ _);exact BK251.out)) : gb252 ≠ gb251));clear BK250;clear BK251;clear HB;have BK250:=n0_;have BK251:=n1_;have HB:=n2_;have BK252:=n3_;have GW252:=n4_;have GE252:=n5_;have NB250_252:=n6_;have NB252_250:=n7_;have NB251_252:=n8_;have NB252_251:=n9_;clear n0_ n1_ n2_ n3_ n4_ n5_ n6_ n7_ n8_ n9_;clear hb hbox hg;have hnb7:=NB250_251.out;have hnc7:=NB251_250.out;have hnb8:=NB250_252.out;have hnc8:=NB252_250.out;have hcz9_0 : w6.cell? ⟨gb250,0,none⟩ = some (.int .i64 a0_0):=(zc_ BK250.out 0).trans rfl;have hcz9_1 : w6.cell? ⟨gb250,1,none⟩ = some (.int .i64 a0_1):=(zc_ BK250.out 1).trans rfl;have hcz9_2 : w6.cell? ⟨gb250,2,none⟩ = some (.slice A0_2 l0_2.length c0_2):=(zc_ BK250.out 2).trans rfl;have hcz9_3 : w6.cell? ⟨gb250,3,none⟩ = some (.int .i64 a0_3):=(zc_ BK250.out 3).trans rfl;have hcz9_4 : w6.cell? ⟨gb250,4,none⟩ = some (.int .i64 a0_4):=(zc_ BK250.out 4).trans rfl;have hcz9_5 : w6.cell? ⟨gb250,5,none⟩ = some (.slice A0_5 l0_5.length c0_5):=(zc_ BK250.out 5).trans rfl;have hfz9_0:=zf_ BK250.out 0;have hfz9_1:=zf_ BK250.out 1;have hfz9_2:=zf_ BK250.out 2;have hfz9_3:=zf_ BK250.out 3;have hfz9_4:=zf_ BK250.out 4;have hfz9_5:=zf_ BK250.out 5;have hnb10:=NB252_251.out;have hnc10:=NB251_252.out;have hcz11_0 : w6.cell? ⟨gb252,0,none⟩ = some (.int .i64 0):=(zc_ BK252.out 0).trans rfl;have hcz11_1 : w6.cell? ⟨gb252,1,none⟩ = some (.int .i64 0):=(zc_ BK252.out 1).trans rfl;have hcz11_2 : w6.cell? ⟨gb252,2,none⟩ = some (.slice none 0 0):=(zc_ BK252.out 2).trans rfl;have hcz11_3 : w6.cell? ⟨gb252,3,none⟩ = some (.int .i64 0):=(zc_ BK252.out 3).trans rfl;have hcz11_4 : w6.cell? ⟨gb252,4,none⟩ = some (.int .i64 0):=(zc_ BK252.out 4).trans rfl;have hcz11_5 : w6.cell? ⟨gb252,5,none⟩ = some (.slice none 0 0):=(zc_ BK252.out 5).trans rfl;have hfz11_0:=zf_ BK252.out 0;have hfz11_1:=zf_ BK252.out 1;have hfz11_2:=zf_ BK252.out 2;have hfz11_3:=zf_ BK252.out 3;have hfz11_4:=zf_ BK252.out 4;have hfz11_5:=zf_ BK252.out 5)|((with_reducible refine gate_callee (f:=37) rfl ?_);refine goesL_ (some 12) rfl rfl Try.func37 (by kernel_rfl) rfl #[.slice A0_2 l0_2.length c0_2] rfl zq_ ?_;(with_reducible refine (laws_toIntS.calls k _ _ l0_2 t253 _ ?side1 ?side2 A2.out).mono ?_);(case side1 => exact Kd.C_below HR0_2.out (by repeat (first|(with_reducible first|exact HB.out|apply za_|apply zn_|apply zd_|refine zs_ ?_ GE250.out|refine zs_ ?_ GE251.out|refine zs_ ?_ GE252.out)|exact HB.out)));(case side2 => exact HC0_2.out);rintro e w12 ⟨v254,rfl,ho0,hb⟩;refine ⟨_,rfl,?_⟩;have n0_:=zm_ (Kd.R_lower ho0 (below_size (by repeat (first|(with_reducible first|exact HB.out|apply za_|apply zn_|apply zd_|refine zs_ ?_ GE250.out|refine zs_ ?_ GE251.out|refine zs_ ?_ GE252.out)|exact HB.out))));have n1_:=zm_ (blk_below (g:=gb250) (o:=.cells #[.int .i64 a0_0,.int .i64 a0_1,.slice A0_2 l0_2.length c0_2,.int .i64 a0_3,.int .i64 a0_4,.slice A0_5 l0_5.length c0_5] 63 (0,0)) (by (with_reducible repeat first|refine zl_ ?_ _|refine zr_ ?_|refine zk_ ?_ _);refine blk_far ?_ NB250_252.out _;(with_reducible repeat first|refine zl_ ?_ _|refine zr_ ?_|refine zk_ ?_ _);refine blk_far ?_ NB250_252.out _;(with_reducible repeat first|refine zl_ ?_ _|refine zr_ ?_|refine zk_ ?_ _);exact BK250.out) hb);have n2_:=zm_ (blk_below (g:=gb251) (o:=.cells #[.int .i64 0,.int .i64 0,.slice none 0 0,.int .i64 0,.int .i64 0,.slice none 0 0] 47 (0,0)) (by (with_reducible repeat first|refine zl_ ?_ _|refine zr_ ?_|refine zk_ ?_ _);refine blk_far ?_ NB251_252.out _;(with_reducible repeat first|refine zl_ ?_ _|refine zr_ ?_|refine zk_ ?_ _);refine blk_far ?_ NB251_252.out _;(with_reducible repeat first|refine zl_ ?_ _|refine zr_ ?_|refine zk_ ?_ _);exact BK251.out) hb);have n3_:=zm_ (blk_below (g:=gb252) (o:=.cells #[.int .i64 a0_0,.int .i64 a0_1,.slice none 0 0,.int .i64 0,.int .i64 0,.slice none 0 0] 47 (0,0)) (by (with_reducible repeat first|refine zl_ ?_ _|refine zr_ ?_|refine zk_ ?_ _);refine blk_put (cs:=#[.int .i64 a0_0,.int .i64 0,.slice none 0 0,.int .i64 0,.int .i64 0,.slice none 0 0]) ?_ 1 _ rfl;(with_reducible repeat first|refine zl_ ?_ _|refine zr_ ?_|refine zk_ ?_ _);refine blk_put (cs:=#[.int .i64 0,.int .i64 0,.slice none 0 0,.int .i64 0,.int .i64 0,.slice none 0 0]) ?_ 0 _ rfl;(with_reducible repeat first|refine zl_ ?_ _|refine zr_ ?_|refine zk_ ?_ _);exact BK252.out) hb);have n4_:=zm_ (below_step (by repeat (first|(with_reducible first|exact HB.out|apply za_|apply zn_|apply zd_|refine zs_ ?_ GE250.out|refine zs_ ?_ GE251.out|refine zs_ ?_ GE252.out)|exact HB.out)) hb);clear BK250;clear BK251;clear BK252;clear HB;have HO255:=n0_;have BK250:=n1_;have BK251:=n2_;have BK252:=n3_;have HB:=n4_;clear n0_ n1_ n2_ n3_ n4_;(try clear hb);(try clear hb2);(try clear hk);(try clear hi);(try clear ho0);obtain ⟨Ao13,co13,eo13⟩:=Kd.R_slice HO255.out;subst eo13;have hcz14_0 : w12.cell? ⟨gb252,0,none⟩ = some (.int .i64 a0_0):=(zc_ BK252.out 0).trans rfl;have hcz14_1 : w12.cell? ⟨gb252,1,none⟩ = some (.int .i64 a0_1):=(zc_ BK252.out 1).trans rfl;have hcz14_2 : w12.cell? ⟨gb252,2,none⟩ = some (.slice none 0 0):=(zc_ BK252.out 2).trans rfl;have hcz14_3 : w12.cell? ⟨gb252,3,none⟩ = some (.int .i64 0):=(zc_ BK252.out 3).trans rfl;have hcz14_4 : w12.cell? ⟨gb252,4,none⟩ = some (.int .i64 0):=(zc_ BK252.out 4).trans rfl;have hcz14_5 : w12.cell? ⟨gb252,5,none⟩ = some (.slice none 0 0):=(zc_ BK252.out 5).trans rfl;have hfz14_0:=zf_ BK252.out 0;have hfz14_1:=zf_ BK252.out 1;have hfz14_2:=zf_ BK252.out 2;have hfz14_3:=zf_ BK252.out 3;have hfz14_4:=zf_ BK252.out 4;have hfz14_5:=zf_ BK252.out 5;have hcz15_0 : w12.cell? ⟨gb250,0,none⟩ = some (.int .i64 a0_0):=(zc_ BK250.out 0).trans rfl;have hcz15_1 : w12.cell? ⟨gb250,1,none⟩ = some (.int .i64 a0_1):=(zc_ BK250.out 1).trans rfl;have hcz15_2 : w12.cell? ⟨gb250,2,none⟩ = some (.slice A0_2 l0_2.length c0_2):=(zc_ BK250.out 2).trans rfl;have hcz15_3 : w12.cell? ⟨gb250,3,none⟩ = some (.int .i64 a0_3):=(zc_ BK250.out 3).trans rfl;have hcz15_4 : w12.cell? ⟨gb250,4,none⟩ = some (.int .i64 a0_4):=(zc_ BK250.out 4).trans rfl;have hcz15_5 : w12.cell? ⟨gb250,5,none⟩ = some (.slice A0_5 l0_5.length c0_5):=(zc_ BK250.out 5).trans rfl;have hfz15_0:=zf_ BK250.out 0;have hfz15_1:=zf_ BK250.out 1;have hfz15_2:=zf_ BK250.out 2;have hfz15_3:=zf_ BK250.out 3;have hfz15_4:=zf_ BK250.out 4;have hfz15_5:=zf_ BK250.out 5)|((with_reducible refine gate_callee (f:=37) rfl ?_);refine goesL_ (some 22) rfl rfl Try.func37 (by kernel_rfl) rfl #[.slice A0_5 l0_5.length c0_5] rfl zq_ ?_;(with_reducible refine (laws_toIntS.calls k _ _ l0_5 t256 _ ?side1 ?side2 A3.out).mono ?_);(case side1 => exact Kd.C_below HR0_5.out (by repeat (first|(with_reducible first|exact HB.out|apply za_|apply zn_|apply zd_|refine zs_ ?_ GE250.out|refine zs_ ?_ GE251.out|refine zs_ ?_ GE252.out)|exact HB.out)));(case side2 => exact HC0_5.out);rintro e w16 ⟨v257,rfl,ho0,hb⟩;refine ⟨_,rfl,?_⟩;have n0_:=zm_ (Kd.R_elder' (by (with_reducible repeat (first|apply Kd.R_alloc|apply Kd.R_drewN|apply Kd.R_drew));exact (Kd.R_mono (Kd.R_far (p:=⟨gb252,4,none⟩) (Kd.R_far (p:=⟨gb252,3,none⟩) (Kd.R_far (p:=⟨gb252,2,none⟩) (Kd.R_types HO255.out BK252.out (by decide)) (fun _ hk => hk.2) (.slice Ao13 t253.length co13)) (fun _ hk => hk.2) (.int .i64 a0_3)) (fun _ hk => hk.2) (.int .i64 a0_4)) (fun _ h_ => h_.1))) (Kd.R_base ho0) hb);have n1_:=zm_ (Kd.R_lower (Kd.R_new' ho0 (Kd.R_lt (by (with_reducible repeat (first|apply Kd.R_alloc|apply Kd.R_drewN|apply Kd.R_drew));exact (Kd.R_mono (Kd.R_far (p:=⟨gb252,4,none⟩) (Kd.R_far (p:=⟨gb252,3,none⟩) (Kd.R_far (p:=⟨gb252,2,none⟩) (Kd.R_types HO255.out BK252.out (by decide)) (fun _ hk => hk.2) (.slice Ao13 t253.length co13)) (fun _ hk => hk.2) (.int .i64 a0_3)) (fun _ hk => hk.2) (.int .i64 a0_4)) (fun _ h_ => h_.1))))) (below_size (by repeat (first|(with_reducible first|exact HB.out|apply za_|apply zn_|apply zd_|refine zs_ ?_ GE250.out|refine zs_ ?_ GE251.out|refine zs_ ?_ GE252.out)|exact HB.out))));have n2_:=zm_ (blk_below (g:=gb250) (o:=.cells #[.int .i64 a0_0,.int .i64 a0_1,.slice A0_2 l0_2.length c0_2,.int .i64 a0_3,.int .i64 a0_4,.slice A0_5 l0_5.length c0_5] 63 (0,0)) (by (with_reducible repeat first|refine zl_ ?_ _|refine zr_ ?_|refine zk_ ?_ _);refine blk_far ?_ NB250_252.out _;(with_reducible repeat first|refine zl_ ?_ _|refine zr_ ?_|refine zk_ ?_ _);refine blk_far ?_ NB250_252.out _;(with_reducible repeat first|refine zl_ ?_ _|refine zr_ ?_|refine zk_ ?_ _);refine blk_far ?_ NB250_252.out _;(with_reducible repeat first|refine zl_ ?_ _|refine zr_ ?_|refine zk_ ?_ _);exact BK250.out) hb);have n3_:=zm_ (blk_below (g:=gb251) (o:=.cells #[.int .i64 0,.int .i64 0,.slice none 0 0,.int .i64 0,.int .i64 0,.slice none 0 0] 47 (0,0)) (by (with_reducible repeat first|refine zl_ ?_ _|refine zr_ ?_|refine zk_ ?_ _);refine blk_far ?_ NB251_252.out _;(with_reducible repeat first|refine zl_ ?_ _|refine zr_ ?_|refine zk_ ?_ _);refine blk_far ?_ NB251_252.out _;(with_reducible repeat first|refine zl_ ?_ _|refine zr_ ?_|refine zk_ ?_ _);refine blk_far ?_ NB251_252.out _;(with_reducible repeat first|refine zl_ ?_ _|refine zr_ ?_|refine zk_ ?_ _);exact BK251.out) hb);have n4_:=zm_ (blk_below (g:=gb252) (o:=.cells #[.int .i64 a0_0,.int .i64 a0_1,.slice Ao13 t253.length co13,.int .i64 a0_3,.int .i64 a0_4,.slice none 0 0] 47 (0,0)) (by (with_reducible repeat first|refine zl_ ?_ _|refine zr_ ?_|refine zk_ ?_ _);refine blk_put (cs:=#[.int .i64 a0_0,.int .i64 a0_1,.slice Ao13 t253.length co13,.int .i64 a0_3,.int .i64 0,.slice none 0 0]) ?_ 4 _ rfl;(with_reducible repeat first|refine zl_ ?_ _|refine zr_ ?_|refine zk_ ?_ _);refine blk_put (cs:=#[.int .i64 a0_0,.int .i64 a0_1,.slice Ao13 t253.length co13,.int .i64 0,.int .i64 0,.slice none 0 0]) ?_ 3 _ rfl;(with_reducible repeat first|refine zl_ ?_ _|refine zr_ ?_|refine zk_ ?_ _);refine blk_put (cs:=#[.int .i64 a0_0,.int .i64 a0_1,.slice none 0 0,.int .i64 0,.int .i64 0,.slice none 0 0]) ?_ 2 _ rfl;(with_reducible repeat first|refine zl_ ?_ _|refine zr_ ?_|refine zk_ ?_ _);exact BK252.out) hb);have n5_:=zm_ (below_step (by repeat (first|(with_reducible first|exact HB.out|apply za_|apply zn_|apply zd_|refine zs_ ?_ GE250.out|refine zs_ ?_ GE251.out|refine zs_ ?_ GE252.out)|exact HB.out)) hb);clear HO255;clear BK250;clear BK251;clear BK252;clear HB;have HO255:=n0_;have HO258:=n1_;have BK250:=n2_;have BK251:=n3_;have BK252:=n4_;have HB:=n5_;clear n0_ n1_ n2_ n3_ n4_ n5_;(try clear hb);(try clear hb2);(try clear hk);(try clear hi);(try clear ho0);obtain ⟨Ao17,co17,eo17⟩:=Kd.R_slice HO258.out;subst eo17;have hcz18_0 : w16.cell? ⟨gb252,0,none⟩ = some (.int .i64 a0_0):=(zc_ BK252.out 0).trans rfl;have hcz18_1 : w16.cell? ⟨gb252,1,none⟩ = some (.int .i64 a0_1):=(zc_ BK252.out 1).trans rfl;have hcz18_2 : w16.cell? ⟨gb252,2,none⟩ = some (.slice Ao13 t253.length co13):=(zc_ BK252.out 2).trans rfl;have hcz18_3 : w16.cell? ⟨gb252,3,none⟩ = some (.int .i64 a0_3):=(zc_ BK252.out 3).trans rfl;have hcz18_4 : w16.cell? ⟨gb252,4,none⟩ = some (.int .i64 a0_4):=(zc_ BK252.out 4).trans rfl;have hcz18_5 : w16.cell? ⟨gb252,5,none⟩ = some (.slice none 0 0):=(zc_ BK252.out 5).trans rfl;have hfz18_0:=zf_ BK252.out 0;have hfz18_1:=zf_ BK252.out 1;have hfz18_2:=zf_ BK252.out 2;have hfz18_3:=zf_ BK252.out 3;have hfz18_4:=zf_ BK252.out 4;have hfz18_5:=zf_ BK252.out 5;have hcz19_0 : w16.cell? ⟨gb251,0,none⟩ = some (.int .i64 0):=(zc_ BK251.out 0).trans rfl;have hcz19_1 : w16.cell? ⟨gb251,1,none⟩ = some (.int .i64 0):=(zc_ BK251.out 1).trans rfl;have hcz19_2 : w16.cell? ⟨gb251,2,none⟩ = some (.slice none 0 0):=(zc_ BK251.out 2).trans rfl;have hcz19_3 : w16.cell? ⟨gb251,3,none⟩ = some (.int .i64 0):=(zc_ BK251.out 3).trans rfl;have hcz19_4 : w16.cell? ⟨gb251,4,none⟩ = some (.int .i64 0):=(zc_ BK251.out 4).trans rfl;have hcz19_5 : w16.cell? ⟨gb251,5,none⟩ = some (.slice none 0 0):=(zc_ BK251.out 5).trans rfl;have hfz19_0:=zf_ BK251.out 0;have hfz19_1:=zf_ BK251.out 1;have hfz19_2:=zf_ BK251.out 2;have hfz19_3:=zf_ BK251.out 3;have hfz19_4:=zf_ BK251.out 4;have hfz19_5:=zf_ BK251.out 5))
 refine bodyPost_ret (results_cell_row rfl _ _ gb251 47 #[.int .i64 a0_0,.int .i64 a0_1,.slice Ao13 t253.length co13,.int .i64 a0_3,.int .i64 a0_4,.slice Ao17 t256.length co17] (0,0) _ rfl (by (with_reducible repeat first|refine zl_ ?_ _|refine zr_ ?_|refine zk_ ?_ _);refine blk_put (cs:=#[.int .i64 a0_0,.int .i64 a0_1,.slice Ao13 t253.length co13,.int .i64 a0_3,.int .i64 a0_4,.slice none 0 0]) ?_ 5 _ rfl;(with_reducible repeat first|refine zl_ ?_ _|refine zr_ ?_|refine zk_ ?_ _);refine blk_put (cs:=#[.int .i64 a0_0,.int .i64 a0_1,.slice Ao13 t253.length co13,.int .i64 a0_3,.int .i64 0,.slice none 0 0]) ?_ 4 _ rfl;(with_reducible repeat first|refine zl_ ?_ _|refine zr_ ?_|refine zk_ ?_ _);refine blk_put (cs:=#[.int .i64 a0_0,.int .i64 a0_1,.slice Ao13 t253.length co13,.int .i64 0,.int .i64 0,.slice none 0 0]) ?_ 3 _ rfl;(with_reducible repeat first|refine zl_ ?_ _|refine zr_ ?_|refine zk_ ?_ _);refine blk_put (cs:=#[.int .i64 a0_0,.int .i64 a0_1,.slice none 0 0,.int .i64 0,.int .i64 0,.slice none 0 0]) ?_ 2 _ rfl;(with_reducible repeat first|refine zl_ ?_ _|refine zr_ ?_|refine zk_ ?_ _);refine blk_put (cs:=#[.int .i64 a0_0,.int .i64 0,.slice none 0 0,.int .i64 0,.int .i64 0,.slice none 0 0]) ?_ 1 _ rfl;(with_reducible repeat first|refine zl_ ?_ _|refine zr_ ?_|refine zk_ ?_ _);refine blk_put (cs:=#[.int .i64 0,.int .i64 0,.slice none 0 0,.int .i64 0,.int .i64 0,.slice none 0 0]) ?_ 0 _ rfl;(with_reducible repeat first|refine zl_ ?_ _|refine zr_ ?_|refine zk_ ?_ _);refine blk_far ?_ NB251_252.out _;(with_reducible repeat first|refine zl_ ?_ _|refine zr_ ?_|refine zk_ ?_ _);exact BK251.out) Try.underlying47 rfl (by kernel_rfl)) rfl ?_
 exact ⟨_,_,by first|rfl|(simp [errW_none,errW_some] <;> rfl)|(simp [*,errW_none,errW_some] <;> rfl),by (with_reducible repeat (first|apply Kd.R_alloc|apply Kd.R_drewN|apply Kd.R_drew));exact Kd.R_mono (Kd.R_far (p:=⟨gb251,5,none⟩) (Kd.R_far (p:=⟨gb251,4,none⟩) (Kd.R_far (p:=⟨gb251,3,none⟩) (Kd.R_far (p:=⟨gb251,2,none⟩) (Kd.R_far (p:=⟨gb251,1,none⟩) (Kd.R_far (p:=⟨gb251,0,none⟩) (Kd.R_far (p:=⟨gb252,5,none⟩) (Kd.R_types (Kd.R_types HO255.out BK252.out (by decide)) BK251.out (by decide)) (fun _ hk => hk.1.2) (.slice Ao17 t256.length co17)) (fun _ hk => hk.2) (.int .i64 a0_0)) (fun _ hk => hk.2) (.int .i64 a0_1)) (fun _ hk => hk.2) (.slice Ao13 t253.length co13)) (fun _ hk => hk.2) (.int .i64 a0_3)) (fun _ hk => hk.2) (.int .i64 a0_4)) (fun _ hk => hk.2) (.slice Ao17 t256.length co17)) (fun _ hk => hk.1.1.2),by (with_reducible repeat (first|apply Kd.R_alloc|apply Kd.R_drewN|apply Kd.R_drew));exact Kd.R_mono (Kd.R_far (p:=⟨gb251,5,none⟩) (Kd.R_far (p:=⟨gb251,4,none⟩) (Kd.R_far (p:=⟨gb251,3,none⟩) (Kd.R_far (p:=⟨gb251,2,none⟩) (Kd.R_far (p:=⟨gb251,1,none⟩) (Kd.R_far (p:=⟨gb251,0,none⟩) (Kd.R_far (p:=⟨gb252,5,none⟩) (Kd.R_types (Kd.R_types HO258.out BK252.out (by decide)) BK251.out (by decide)) (fun _ hk => hk.1.2) (.slice Ao17 t256.length co17)) (fun _ hk => hk.2) (.int .i64 a0_0)) (fun _ hk => hk.2) (.int .i64 a0_1)) (fun _ hk => hk.2) (.slice Ao13 t253.length co13)) (fun _ hk => hk.2) (.int .i64 a0_3)) (fun _ hk => hk.2) (.int .i64 a0_4)) (fun _ hk => hk.2) (.slice Ao17 t256.length co17)) (fun _ hk => hk.1.1.2),by repeat (first|(with_reducible first|exact HB.out|apply za_|apply zn_|apply zd_|refine zs_ ?_ GE250.out|refine zs_ ?_ GE251.out|refine zs_ ?_ GE252.out)|exact HB.out)⟩

def laws_toTreeNodeS.l0 : Nat → List (S63) → List (S47) → Int → Option ((List (S47)))
 |0,_,_,_ => none
 |k + 1,x0,x3,x4 => if x4 < (x0.length : Int) then (if 0 ≤ x4 then ((laws_toTreeNode.f k ((rd_T63 x0 x4).f0) ((rd_T63 x0 x4).f1) ((rd_T63 x0 x4).f2) ((rd_T63 x0 x4).f3) ((rd_T63 x0 x4).f4) ((rd_T63 x0 x4).f5)).bind fun bt263 => (if x4 < (x3.length : Int) then (laws_toTreeNodeS.l0 k x0 (x3.set (x4 : Int).toNat (⟨bt263.1,bt263.2.1,bt263.2.2.1,bt263.2.2.2.1,bt263.2.2.2.2.1,bt263.2.2.2.2.2⟩ : S47)) (wrap64 (x4 + 1))) else (none))) else (none)) else (some x3)
def laws_toTreeNodeS.f (k : Nat) (l0 : List (S63)) : Option ((List (S47))):=if 0 ≤ (l0.length : Int) then (if ((l0.length : Int) : Int).toNat ≤ 3518437208883 then (laws_toTreeNodeS.l0 k l0 (List.replicate ((l0.length : Int) : Int).toNat z47) 0) else (none)) else (none)
theorem laws_toTreeNodeS.mono_l : ∀ k,(∀ y0 y1 y2,LeO (laws_toTreeNodeS.l0 k y0 y1 y2) (laws_toTreeNodeS.l0 (k + 1) y0 y1 y2))
 |0 => fun _ _ _ r h => by simp [laws_toTreeNodeS.l0] at h
 |k + 1 => by
  have ih0:=laws_toTreeNodeS.mono_l k
  ·intro y0 y1 y2
   unfold laws_toTreeNodeS.l0
   repeat' first
   |(with_reducible exact ih0 _ _ _)
   |(with_reducible exact laws_toTreeNode.mono _ _ _ _ _ _ _)
   |(with_reducible exact LeO.refl _)
   |(with_reducible exact LeO.none _)
   |(with_reducible refine LeO.ite ?_ ?_)
   |(with_reducible refine LeO.bind ?_ (fun _ => ?_))
theorem laws_toTreeNodeS.mono : ∀ a0 k,LeO (laws_toTreeNodeS.f k a0) (laws_toTreeNodeS.f (k + 1) a0):=by
 intro a0 k
 have ih0:=laws_toTreeNodeS.mono_l k
 unfold laws_toTreeNodeS.f
 repeat' first
   |(with_reducible exact ih0 _ _ _)
   |(with_reducible exact laws_toTreeNode.mono _ _ _ _ _ _ _)
   |(with_reducible exact LeO.refl _)
   |(with_reducible exact LeO.none _)
   |(with_reducible refine LeO.ite ?_ ?_)
   |(with_reducible refine LeO.bind ?_ (fun _ => ?_))
set_option maxHeartbeats 8000000 in
set_option maxRecDepth 100000 in
theorem laws_toTreeNodeS.calls (k : Nat) (A0 : Option Addr) (c0 : Nat) (l0 : List (S63)) (r : List (S47)) (w : World) (hr0 : Kd.C k63 w A0 l0.length l0) (hc0 : l0.length ≤ c0) (h : laws_toTreeNodeS.f k l0 = some r) :
  Calls Try.prog 16 #[.slice A0 l0.length c0] w fun e w' => ∃ v0_ : Value,e = .returned (v0_) ∧ Kd.S k47 47 w' w.heap.size (fun _ => True) v0_ r ∧ Below w.heap.size w w':=by
 have hu63:=Try.underlying63
 have hu47:=Try.underlying47
 have HR0:=zm_ hr0
 have HC0:=zm_ hc0
 clear hr0 hc0
 have HB:=zm_ (Below.refl w.heap.size w)
 have H : (if 0 ≤ (l0.length : Int) then (if ((l0.length : Int) : Int).toNat ≤ 3518437208883 then (laws_toTreeNodeS.l0 k l0 (List.replicate ((l0.length : Int) : Int).toNat z47) 0) else (none)) else (none)) = some r:=h
 clear h
 by_cases c2 : 0 ≤ (l0.length : Int)
 ·rw [if_pos c2] at H
  have c2b0:=eq_true c2
  have c2b1 : decide (0 ≤ (l0.length : Int)) = true:=decide_eq_true c2
  clear c2
  by_cases c3 : ((l0.length : Int) : Int).toNat ≤ 3518437208883
  ·rw [if_pos c3] at H
   have c3b0:=eq_true c3
   have c3b1 : decide (((l0.length : Int) : Int).toNat ≤ 3518437208883) = true:=decide_eq_true c3
   clear c3
   obtain ⟨y259,hy259⟩ : ∃ y_ : List (S47),y_ = (List.replicate ((l0.length : Int) : Int).toNat z47):=⟨_,rfl⟩
   replace H : (laws_toTreeNodeS.l0 k l0 y259 0) = some r:=by first|(rw [hy259];with_reducible exact H)|(have H2_:=(Option.bind_some _ _).symm.trans H;rw [hy259];with_reducible exact H2_)|(have H2_:=(Option.bind_some _ _).symm.trans H;with_reducible exact H2_)|with_reducible exact H|(rw [hy259];exact H)|exact H
   have Ny259:=zm_ hy259
   clear hy259
   have H':=zm_ H
   clear H
   go_enter Try.func16,Try.ntmps16
   go_wp2_with (first|((with_reducible refine gate_dst (N:=7) rfl ?_);refine Kd.S_make k47 _ 47 rfl (N:=7) rfl 35 _ _ rfl (l0.length : Int) rfl rfl Try.underlying35 (.agg #[(.int .i64 0),(.int .i64 0),(.slice none 0 0),(.int .i64 0),(.int .i64 0),(.slice none 0 0)]) 80 info47 rfl (by decide) (by omega) z47 (ok:=fun _ => True) (okp:=fun _ => True) (k47_mkM _ _ _ z47 (Kd.R_nil _ _ _ _ _) (Kd.R_nil _ _ _ _ _)) (fun _ hk => hk) trivial (zo_) (Nat.le_trans (Nat.mul_le_mul_right _ (zo_ : (l0.length : Int).toNat ≤ 3518437208883)) (by omega)) (Below.refl _ _) (Nat.le_refl _) ?_;intro v260 w4 ho5 hb hg_ hnew_;clear hg_ hnew_;(first|rw [← Ny259.out] at ho5|(simp only [Int.reduceToNat] at ho5;rw [← Ny259.out] at ho5));have n0_:=zm_ (Kd.S_lower ho5 (below_size zB_));have n1_:=zm_ (below_step zB_ hb);clear HB;have HO261:=n0_;have HB:=n1_;clear n0_ n1_;clear hb ho5))
   go_loopg [4] k (fun kq v4 w' => ∃ (x3_1 : List (S47)) (x4_1 : Int),v4 = .int .i64 x4_1 ∧ Aside0 (laws_toTreeNodeS.l0 kq l0 x3_1 x4_1 = some r) ∧ Aside0 (kq ≤ k) ∧ Aside0 (Kd.S k47 47 w' w.heap.size (fun _ => True) v260 x3_1) ∧ Aside0 (Below w.heap.size w w'))
   case atStart => exact ⟨(y259),(0),zV_,H',⟨Nat.le_refl _⟩,⟨by (with_reducible repeat (first|apply Kd.S_alloc|apply Kd.S_drewN|apply Kd.S_drew));exact HO261.out⟩,⟨by repeat (first|(with_reducible first|exact HB.out|apply za_|apply zn_|apply zd_)|exact HB.out)⟩⟩
   case round =>
    clear H'
    try clear c1
    try clear c2
    try clear c2b0
    try clear c2b1
    try clear p2
    try clear c3
    try clear c3b0
    try clear c3b1
    obtain ⟨x3_1,x4_1,rfl,HA,HK1,HO_3,HB⟩:=hrel
    cases gk with
    |zero => exact absurd HA.out (by simp [laws_toTreeNodeS.l0])
    |succ k1 =>
     have H:=HA.out
     clear HA
     simp only [laws_toTreeNodeS.l0] at H
     by_cases c6 : x4_1 < (l0.length : Int)
     ·rw [if_pos c6] at H
      have c6b0 : decide (x4_1 < (l0.length : Int)) = true:=decide_eq_true c6
      clear c6
      by_cases c7 : 0 ≤ x4_1
      ·rw [if_pos c7] at H
       have c7b0 : decide (0 ≤ x4_1) = true:=decide_eq_true c7
       clear c7
       replace H:=Option.bind_eq_some_iff.mp H
       obtain ⟨⟨t263,t264,t265,t268,t269,t270⟩,A80,H⟩:=H
       replace H : (if x4_1 < (x3_1.length : Int) then (laws_toTreeNodeS.l0 k1 l0 (x3_1.set (x4_1 : Int).toNat (⟨t263,t264,t265,t268,t269,t270⟩ : S47)) (wrap64 (x4_1 + 1))) else (none)) = some r:=H
       have A8:=zm_ A80
       clear A80
       by_cases c9 : x4_1 < (x3_1.length : Int)
       ·rw [if_pos c9] at H
        have c9b0 : decide (x4_1 < (x3_1.length : Int)) = true:=decide_eq_true c9
        clear c9
        obtain ⟨y273,hy273⟩ : ∃ y_ : List (S47),y_ = (x3_1.set (x4_1 : Int).toNat (⟨t263,t264,t265,t268,t269,t270⟩ : S47)):=⟨_,rfl⟩
        replace H : (laws_toTreeNodeS.l0 k1 l0 y273 (wrap64 (x4_1 + 1))) = some r:=by first|(rw [hy273];with_reducible exact H)|(have H2_:=(Option.bind_some _ _).symm.trans H;rw [hy273];with_reducible exact H2_)|(have H2_:=(Option.bind_some _ _).symm.trans H;with_reducible exact H2_)|with_reducible exact H|(rw [hy273];exact H)|exact H
        have Ny273:=zm_ hy273
        clear hy273
        have H':=zm_ H
        clear H
        have p262 : 0 ≤ (x4_1 : Int):=zo_
        have q262 : x4_1 < (l0.length : Int):=zo_
        obtain ⟨ad262,A262_2,c262_2,A262_5,c262_5,e262,hx262_0,hx262_1,hx262_2,hx262_3,hx262_4,hx262_5,hl262_2,hi262_2,hl262_5,hi262_5⟩:=at_T63 HR0.out x4_1 p262 q262
        cases e262
        replace hx262_0:=(HB.out.cell (zb_ w _ hx262_0)).trans hx262_0
        replace hx262_1:=(HB.out.cell (zb_ w _ hx262_1)).trans hx262_1
        replace hx262_2:=(HB.out.cell (zb_ w _ hx262_2)).trans hx262_2
        replace hx262_3:=(HB.out.cell (zb_ w _ hx262_3)).trans hx262_3
        replace hx262_4:=(HB.out.cell (zb_ w _ hx262_4)).trans hx262_4
        replace hx262_5:=(HB.out.cell (zb_ w _ hx262_5)).trans hx262_5
        have HR262_2:=zm_ hi262_2
        have HC262_2:=zm_ hl262_2
        clear hi262_2 hl262_2
        have HR262_5:=zm_ hi262_5
        have HC262_5:=zm_ hl262_5
        clear hi262_5 hl262_5
        replace p262:=eq_true p262
        replace q262:=eq_true q262
        go_wp2_with (first|((with_reducible refine gate_callee (f:=25) rfl ?_);refine goesL_ (some 20) rfl rfl Try.func25 (by kernel_rfl) rfl #[.agg #[.int .i64 ((rd_T63 l0 x4_1).f0),.int .i64 ((rd_T63 l0 x4_1).f1),.slice A262_2 ((rd_T63 l0 x4_1).f2).length c262_2,.int .i64 ((rd_T63 l0 x4_1).f3),.int .i64 ((rd_T63 l0 x4_1).f4),.slice A262_5 ((rd_T63 l0 x4_1).f5).length c262_5]] rfl zq_ ?_;(with_reducible refine (laws_toTreeNode.calls k1 ((rd_T63 l0 x4_1).f0) ((rd_T63 l0 x4_1).f1) _ _ ((rd_T63 l0 x4_1).f2) ((rd_T63 l0 x4_1).f3) ((rd_T63 l0 x4_1).f4) _ _ ((rd_T63 l0 x4_1).f5) t263 t264 t265 t268 t269 t270 _ ?side1 ?side2 ?side3 ?side4 A8.out).mono ?_);(case side1 => repeat (first|exact (Kd.C_below HR262_2.out HB.out)|(with_reducible refine Kd.C_alloc ?_ _)|(with_reducible refine Kd.C_drewN ?_ _)|(with_reducible refine Kd.C_drew ?_)));(case side2 => exact HC262_2.out);(case side3 => repeat (first|exact (Kd.C_below HR262_5.out HB.out)|(with_reducible refine Kd.C_alloc ?_ _)|(with_reducible refine Kd.C_drewN ?_ _)|(with_reducible refine Kd.C_drew ?_)));(case side4 => exact HC262_5.out);rintro e w11 ⟨v266,v271,rfl,ho0,ho1,hb⟩;refine ⟨_,rfl,?_⟩;have n0_:=zm_ (Kd.S_mono (Kd.S_told (Kd.S_told (Kd.S_old (by (with_reducible repeat (first|apply Kd.S_alloc|apply Kd.S_drewN|apply Kd.S_drew));exact HO_3.out) hb) (Kd.R_base ho0)) (Kd.R_base ho1)) (fun _ h_ => h_.1));have n1_:=zm_ (Kd.R_lower ho0 (below_size zB_));have n2_:=zm_ (Kd.R_lower ho1 (below_size zB_));have n3_:=zm_ (below_step zB_ hb);clear HO_3;clear HB;have HO_3:=n0_;have HO267:=n1_;have HO272:=n2_;have HB:=n3_;clear n0_ n1_ n2_ n3_;(try clear hb);(try clear hb2);(try clear hk);(try clear hi);(try clear ho0);(try clear ho1);have p10 : 0 ≤ (x4_1 : Int):=zo_;have q10 : (x4_1 : Int) < ((x3_1.length : Int) : Int):=zo_;obtain ⟨go10,co10,eo10,gb10,gl10,cl10,HG10⟩:=Kd.S_form HO_3.out (by omega);(first|cases eo10|(injection eo10 with ea_ en_ ec_;(first|subst ea_|(injection ea_ with ea_;subst ea_));subst ec_;clear en_));have GB10:=zm_ gb10;have GG10:=zm_ HG10;clear gb10 gl10 HG10;obtain ⟨_,ce10,hcl10,hM10,hcc10,hfr10,_,_⟩:=Kd.S_elem HO_3.out z47 (x4_1 : Int) p10 q10;obtain ⟨ve10_2,ve10_5,rfl,ge10_2,ge10_5⟩:=k47_openM hM10;have hx10_0 : w11.cell? ⟨go10,(x4_1 : Int).toNat * 6,none⟩ = some (.int .i64 ((rd_T47 x3_1 x4_1).f0)):=hcc10 0 _ rfl;have hx10_1 : w11.cell? ⟨go10,(x4_1 : Int).toNat * 6 + 1,none⟩ = some (.int .i64 ((rd_T47 x3_1 x4_1).f1)):=hcc10 1 _ rfl;have hx10_2 : w11.cell? ⟨go10,(x4_1 : Int).toNat * 6 + 2,none⟩ = some (ve10_2):=hcc10 2 _ rfl;have hx10_3 : w11.cell? ⟨go10,(x4_1 : Int).toNat * 6 + 3,none⟩ = some (.int .i64 ((rd_T47 x3_1 x4_1).f3)):=hcc10 3 _ rfl;have hx10_4 : w11.cell? ⟨go10,(x4_1 : Int).toNat * 6 + 4,none⟩ = some (.int .i64 ((rd_T47 x3_1 x4_1).f4)):=hcc10 4 _ rfl;have hx10_5 : w11.cell? ⟨go10,(x4_1 : Int).toNat * 6 + 5,none⟩ = some (ve10_5):=hcc10 5 _ rfl;have hf10_0 : w11.frozen? ⟨go10,(x4_1 : Int).toNat * 6,none⟩ = false:=hfr10 0;have hf10_1 : w11.frozen? ⟨go10,(x4_1 : Int).toNat * 6 + 1,none⟩ = false:=hfr10 1;have hf10_2 : w11.frozen? ⟨go10,(x4_1 : Int).toNat * 6 + 2,none⟩ = false:=hfr10 2;have hf10_3 : w11.frozen? ⟨go10,(x4_1 : Int).toNat * 6 + 3,none⟩ = false:=hfr10 3;have hf10_4 : w11.frozen? ⟨go10,(x4_1 : Int).toNat * 6 + 4,none⟩ = false:=hfr10 4;have hf10_5 : w11.frozen? ⟨go10,(x4_1 : Int).toNat * 6 + 5,none⟩ = false:=hfr10 5;clear hcl10 hcc10 hfr10 hM10;replace p10:=eq_true p10;replace q10:=eq_true q10;have n_:=zm_ (Kd.S_mono (ok':=(fun k_ => some k_ ≠ (v266 : Value).ownBlock ∧ some k_ ≠ (v271 : Value).ownBlock)) HO_3.out (fun k_ hk => ⟨hk.1.2,hk.2⟩));clear HO_3;have HO_3:=n_;clear n_;have HX12:=zm_ (show Kd.S k47 47 w11 w.heap.size (fun k_ => ((fun _ => True)) k_ ∧ ¬ ((fun k_ => some k_ = (v266 : Value).ownBlock ∨ some k_ = (v271 : Value).ownBlock)) k_) (.slice (some ⟨go10,0,none⟩) x3_1.length co10) x3_1 from (by (with_reducible repeat (first|apply Kd.S_alloc|apply Kd.S_drewN|apply Kd.S_drew));exact Kd.S_mono HO_3.out (fun k_ hk => ⟨trivial,fun e_ => e_.elim (fun h_ => hk.1 h_) (fun h_ => hk.2 h_)⟩)));obtain ⟨oki12,ce12,hcl12,hM12,hcc12,hfr12,hoki12,hH12⟩:=Kd.S_elem HX12.out z47 (x4_1 : Int) (zo_) (by have h_ : (x4_1 : Int) < ((x3_1.length : Int) : Int):=zo_;first|exact h_|(have e_:=(Kd.S_reads' HO_3.out).1;omega)|simpa using h_);obtain ⟨ve12_2,ve12_5,rfl,ge12_2,ge12_5⟩:=k47_openM hM12;have HP12:=Kd.S_seg hH12 (zo_) (by have h_ : (x4_1 : Int) < ((x3_1.length : Int) : Int):=zo_;first|exact h_|(have e_:=(Kd.S_reads' HO_3.out).1;omega)|simpa using h_) (seg:=[.int .i64 t263,.int .i64 t264,v266,.int .i64 t268,.int .i64 t269,v271]) (j:=0) (show 6 ≤ 6 from by decide) (x':=(⟨t263,t264,t265,t268,t269,t270⟩ : S47)) (k47_mkM _ _ _ (⟨t263,t264,t265,t268,t269,t270⟩ : S47) (Kd.R_mono (Kd.R_tight rfl (Kd.R_mono (ok':=fun k_ => ((fun _ => True)) k_ ∧ k_ ≠ go10) (Kd.R_apart' (HO267.out) (Kd.S_typed HO_3.out) (by decide)) (fun k_ hk => ⟨trivial,fun e_ => (hk.2) (by rw [e_];rfl)⟩))) (fun _ h_ => Or.inr (Or.inl h_))) (Kd.R_mono (Kd.R_tight rfl (Kd.R_mono (ok':=fun k_ => ((fun _ => True)) k_ ∧ k_ ≠ go10) (Kd.R_apart' (HO272.out) (Kd.S_typed HO_3.out) (by decide)) (fun k_ hk => ⟨trivial,fun e_ => (hk.2) (by rw [e_];rfl)⟩))) (fun _ h_ => Or.inr (Or.inr (h_))))) (fun _ hk => hk) (fun k_ hk_ => hk_.elim (fun h_ => ((Kd.R_mono (ok':=fun k_ => ((fun _ => True)) k_ ∧ k_ ≠ go10) (Kd.R_apart' (HO267.out) (Kd.S_typed HO_3.out) (by decide)) (fun k_ hk => ⟨trivial,fun e_ => (hk.2) (by rw [e_];rfl)⟩))).1 k_ h_.symm) (fun h_ => ((Kd.R_mono (ok':=fun k_ => ((fun _ => True)) k_ ∧ k_ ≠ go10) (Kd.R_apart' (HO272.out) (Kd.S_typed HO_3.out) (by decide)) (fun k_ hk => ⟨trivial,fun e_ => (hk.2) (by rw [e_];rfl)⟩))).1 k_ h_.symm));have hx12_0:=hcc12 0 _ rfl;(try simp only [show (k47).sz = 6 from rfl,Nat.mul_one,Nat.add_zero] at hx12_0);have hf12_0:=hfr12 0;(try simp only [show (k47).sz = 6 from rfl,Nat.mul_one,Nat.add_zero] at hf12_0);have hx12_1:=hcc12 1 _ rfl;(try simp only [show (k47).sz = 6 from rfl,Nat.mul_one,Nat.add_zero] at hx12_1);have hf12_1:=hfr12 1;(try simp only [show (k47).sz = 6 from rfl,Nat.mul_one,Nat.add_zero] at hf12_1);have hx12_2:=hcc12 2 _ rfl;(try simp only [show (k47).sz = 6 from rfl,Nat.mul_one,Nat.add_zero] at hx12_2);have hf12_2:=hfr12 2;(try simp only [show (k47).sz = 6 from rfl,Nat.mul_one,Nat.add_zero] at hf12_2);have hx12_3:=hcc12 3 _ rfl;(try simp only [show (k47).sz = 6 from rfl,Nat.mul_one,Nat.add_zero] at hx12_3);have hf12_3:=hfr12 3;(try simp only [show (k47).sz = 6 from rfl,Nat.mul_one,Nat.add_zero] at hf12_3);have hx12_4:=hcc12 4 _ rfl;(try simp only [show (k47).sz = 6 from rfl,Nat.mul_one,Nat.add_zero] at hx12_4);have hf12_4:=hfr12 4;(try simp only [show (k47).sz = 6 from rfl,Nat.mul_one,Nat.add_zero] at hf12_4);have hx12_5:=hcc12 5 _ rfl;(try simp only [show (k47).sz = 6 from rfl,Nat.mul_one,Nat.add_zero] at hx12_5);have hf12_5:=hfr12 5;(try simp only [show (k47).sz = 6 from rfl,Nat.mul_one,Nat.add_zero] at hf12_5);clear hcl12 hcc12 hfr12 hM12 hoki12 hH12)|((with_reducible refine gate_store (t:=47) (p:=21) rfl ?_);(first|have st2_:=store_own (P:=Try.prog) HO267.out|have st2_:=store_own (P:=Try.prog) (Kd.S_R HO267.out));(first|have st5_:=store_own (P:=Try.prog) HO272.out|have st5_:=store_own (P:=Try.prog) (Kd.S_R HO272.out));refine store_event (t:=47) (p:=21) (v:=?vo_w13) (w1:=((((((w11.setCell ⟨go10,(x4_1 : Int).toNat * 6,none⟩ (.int .i64 t263)).setCell ⟨go10,(x4_1 : Int).toNat * 6 + 1,none⟩ (.int .i64 t264)).setCell ⟨go10,(x4_1 : Int).toNat * 6 + 2,none⟩ (v266)).setCell ⟨go10,(x4_1 : Int).toNat * 6 + 3,none⟩ (.int .i64 t268)).setCell ⟨go10,(x4_1 : Int).toNat * 6 + 4,none⟩ (.int .i64 t269)).setCell ⟨go10,(x4_1 : Int).toNat * 6 + 5,none⟩ (v271))) ?hg ?ho ?hn ?hr ?_;(case ho => rfl);(case hg => rfl);(case hn => rfl);(case hr => first|(go_simp;done)|(go_simp;rfl));intro w13 hw;have hg : w11.grownBy w13 (some go10):=(by rw [hw];exact HP12.2);have hp_ : Kd.S k47 47 w13 w.heap.size (fun _ => True) (.slice (some ⟨go10,0,none⟩) x3_1.length co10) y273:=(by rw [hw,Ny273.out];exact HP12.1);clear HP12;have n0_:=zm_ (hp_);have n1_:=zm_ ((by rw [hw];exact zs_ (zs_ (zs_ (zs_ (zs_ (zs_ (HB.out) GB10.out) GB10.out) GB10.out) GB10.out) GB10.out) GB10.out : Below w.heap.size w w13));clear HO_3;clear HB;clear HO267;clear HO272;have HO_3:=n0_;have HB:=n1_;clear n0_ n1_;clear hg hw hp_))
        go_roundg k1
        case measure => have:=HK1.out;omega
        case rel => exact ⟨(y273),(wrap64 (x4_1 + 1)),zV_,H',⟨by have:=HK1.out;omega⟩,⟨by (with_reducible repeat (first|apply Kd.S_alloc|apply Kd.S_drewN|apply Kd.S_drew));exact HO_3.out⟩,⟨by repeat (first|(with_reducible first|exact HB.out|apply za_|apply zn_|apply zd_)|exact HB.out)⟩⟩
       ·rw [if_neg c9] at H
        exact absurd H (by simp)
      ·rw [if_neg c7] at H
       exact absurd H (by simp)
     ·rw [if_neg c6] at H
      have c6b0 : decide (x4_1 < (l0.length : Int)) = false:=decide_eq_false c6
      clear c6
      obtain rfl:=Option.some.inj H
      go_wp2
      go_ret
      exact ⟨_,by first|rfl|(simp [errW_none,errW_some] <;> rfl)|(simp [*,errW_none,errW_some] <;> rfl),by (with_reducible repeat (first|apply Kd.S_alloc|apply Kd.S_drewN|apply Kd.S_drew));exact HO_3.out,by repeat (first|(with_reducible first|exact HB.out|apply za_|apply zn_|apply zd_)|exact HB.out)⟩
  ·rw [if_neg c3] at H
   exact absurd H (by simp)
 ·rw [if_neg c2] at H
  exact absurd H (by simp)

def laws_toTree.f (k : Nat) (l0_0 : List (S63)) : Option ((List (S47))):=(laws_toTreeNodeS.f k l0_0).bind fun t277 => (some t277)
theorem laws_toTree.mono : ∀ a0 k,LeO (laws_toTree.f k a0) (laws_toTree.f (k + 1) a0):=by
 intro a0 k
 unfold laws_toTree.f
 repeat' first
   |(with_reducible exact laws_toTreeNodeS.mono _ _)
   |(with_reducible exact LeO.refl _)
   |(with_reducible exact LeO.none _)
   |(with_reducible refine LeO.ite ?_ ?_)
   |(with_reducible refine LeO.bind ?_ (fun _ => ?_))
set_option maxHeartbeats 8000000 in
set_option maxRecDepth 100000 in
theorem laws_toTree.calls (k : Nat) (A0_0 : Option Addr) (c0_0 : Nat) (l0_0 : List (S63)) (r : List (S47)) (w : World) (hr0_0 : Kd.C k63 w A0_0 l0_0.length l0_0) (hc0_0 : l0_0.length ≤ c0_0) (h : laws_toTree.f k l0_0 = some r) :
  Calls Try.prog 8 #[.agg #[.slice A0_0 l0_0.length c0_0]] w fun e w' => ∃ v0_ : Value,e = .returned (.agg #[v0_]) ∧ Kd.S k47 47 w' w.heap.size (fun _ => True) v0_ r ∧ Below w.heap.size w w':=by
 have hu27:=Try.underlying27
 have hu37:=Try.underlying37
 have HR0_0:=zm_ hr0_0
 have HC0_0:=zm_ hc0_0
 clear hr0_0 hc0_0
 have HB:=zm_ (Below.refl w.heap.size w)
 have H : ((laws_toTreeNodeS.f k l0_0).bind fun t277 => (some t277)) = some r:=h
 clear h
 replace H:=Option.bind_eq_some_iff.mp H
 obtain ⟨t277,A20,H⟩:=H
 replace H : (some t277) = some r:=H
 have A2:=zm_ A20
 clear A20
 obtain rfl:=Option.some.inj H
 go_enter Try.func8,Try.ntmps8
 go_wp2_with (first|((with_reducible refine gate_dst (N:=1) rfl ?_);refine box_event ?hg (N:=1) ?hd (cs:=#[.slice A0_0 l0_0.length c0_0]) (t:=27) ?hr ?_;(case hd => rfl);(case hg => rfl);(case hr => first|(go_simp;done)|(go_simp;rfl));intro gb274 hg w3 hbox hb;have n0_:=zm_ (below_step zB_ hb);have n1_:=zm_ (hbox);have n2_:=zm_ ((by rw [hg];exact (below_size zB_) : w.heap.size ≤ gb274));have n3_:=zm_ ((by rw [hg];exact (below_size zB_) : w.heap.size ≤ gb274));clear HB;have HB:=n0_;have BK274:=n1_;have GW274:=n2_;have GE274:=n3_;clear n0_ n1_ n2_ n3_;clear hb hbox hg)|((with_reducible refine gate_dst (N:=2) rfl ?_);refine box_event ?hg (N:=2) ?hd (cs:=#[.slice none 0 0]) (t:=37) ?hr ?_;(case hd => rfl);(case hg => rfl);(case hr => first|(go_simp;done)|(go_simp;rfl));intro gb275 hg w4 hbox hb;have n0_:=zm_ (blk_below (g:=gb274) (o:=.cells #[.slice A0_0 l0_0.length c0_0] 27 (0,0)) (by (with_reducible repeat first|refine zl_ ?_ _|refine zr_ ?_|refine zk_ ?_ _);exact BK274.out) hb);have n1_:=zm_ (below_step (by repeat (first|(with_reducible first|exact HB.out|apply za_|apply zn_|apply zd_|refine zs_ ?_ GE274.out)|exact HB.out)) hb);have n2_:=zm_ (hbox);have n3_:=zm_ ((by rw [hg];exact (below_size (by repeat (first|(with_reducible first|exact HB.out|apply za_|apply zn_|apply zd_|refine zs_ ?_ GE274.out)|exact HB.out))) : w.heap.size ≤ gb275));have n4_:=zm_ ((by rw [hg];exact (below_size (by repeat (first|(with_reducible first|exact HB.out|apply za_|apply zn_|apply zd_|refine zs_ ?_ GE274.out)|exact HB.out))) : w.heap.size ≤ gb275));have n5_:=zm_ ((by rw [hg];exact Nat.ne_of_lt (blk_lt (g:=gb274) (o:=.cells #[.slice A0_0 l0_0.length c0_0] 27 (0,0)) (by (with_reducible repeat first|refine zl_ ?_ _|refine zr_ ?_|refine zk_ ?_ _);exact BK274.out)) : gb274 ≠ gb275));have n6_:=zm_ ((by rw [hg];exact Nat.ne_of_gt (blk_lt (g:=gb274) (o:=.cells #[.slice A0_0 l0_0.length c0_0] 27 (0,0)) (by (with_reducible repeat first|refine zl_ ?_ _|refine zr_ ?_|refine zk_ ?_ _);exact BK274.out)) : gb275 ≠ gb274));clear BK274;clear HB;have BK274:=n0_;have HB:=n1_;have BK275:=n2_;have GW275:=n3_;have GE275:=n4_;have NB274_275:=n5_;have NB275_274:=n6_;clear n0_ n1_ n2_ n3_ n4_ n5_ n6_;clear hb hbox hg)|((with_reducible refine gate_dst (N:=3) rfl ?_);refine box_event ?hg (N:=3) ?hd (cs:=#[.slice none 0 0]) (t:=37) ?hr ?_;(case hd => rfl);(case hg => rfl);(case hr => first|(go_simp;done)|(go_simp;rfl));intro gb276 hg w5 hbox hb;have n0_:=zm_ (blk_below (g:=gb274) (o:=.cells #[.slice A0_0 l0_0.length c0_0] 27 (0,0)) (by (with_reducible repeat first|refine zl_ ?_ _|refine zr_ ?_|refine zk_ ?_ _);exact BK274.out) hb);have n1_:=zm_ (blk_below (g:=gb275) (o:=.cells #[.slice none 0 0] 37 (0,0)) (by (with_reducible repeat first|refine zl_ ?_ _|refine zr_ ?_|refine zk_ ?_ _);exact BK275.out) hb);have n2_:=zm_ (below_step (by repeat (first|(with_reducible first|exact HB.out|apply za_|apply zn_|apply zd_|refine zs_ ?_ GE274.out|refine zs_ ?_ GE275.out)|exact HB.out)) hb);have n3_:=zm_ (hbox);have n4_:=zm_ ((by rw [hg];exact (below_size (by repeat (first|(with_reducible first|exact HB.out|apply za_|apply zn_|apply zd_|refine zs_ ?_ GE274.out|refine zs_ ?_ GE275.out)|exact HB.out))) : w.heap.size ≤ gb276));have n5_:=zm_ ((by rw [hg];exact (below_size (by repeat (first|(with_reducible first|exact HB.out|apply za_|apply zn_|apply zd_|refine zs_ ?_ GE274.out|refine zs_ ?_ GE275.out)|exact HB.out))) : w.heap.size ≤ gb276));have n6_:=zm_ ((by rw [hg];exact Nat.ne_of_lt (blk_lt (g:=gb274) (o:=.cells #[.slice A0_0 l0_0.length c0_0] 27 (0,0)) (by (with_reducible repeat first|refine zl_ ?_ _|refine zr_ ?_|refine zk_ ?_ _);exact BK274.out)) : gb274 ≠ gb276));have n7_:=zm_ ((by rw [hg];exact Nat.ne_of_gt (blk_lt (g:=gb274) (o:=.cells #[.slice A0_0 l0_0.length c0_0] 27 (0,0)) (by (with_reducible repeat first|refine zl_ ?_ _|refine zr_ ?_|refine zk_ ?_ _);exact BK274.out)) : gb276 ≠ gb274));have n8_:=zm_ ((by rw [hg];exact Nat.ne_of_lt (blk_lt (g:=gb275) (o:=.cells #[.slice none 0 0] 37 (0,0)) (by (with_reducible repeat first|refine zl_ ?_ _|refine zr_ ?_|refine zk_ ?_ _);exact BK275.out)) : gb275 ≠ gb276));have n9_:=zm_ ((by rw [hg];exact Nat.ne_of_gt (blk_lt (g:=gb275) (o:=.cells #[.slice none 0 0] 37 (0,0)) (by (with_reducible repeat first|refine zl_ ?_ _|refine zr_ ?_|refine zk_ ?_ _);exact BK275.out)) : gb276 ≠ gb275));clear BK274;clear BK275;clear HB;have BK274:=n0_;have BK275:=n1_;have HB:=n2_;have BK276:=n3_;have GW276:=n4_;have GE276:=n5_;have NB274_276:=n6_;have NB276_274:=n7_;have NB275_276:=n8_;have NB276_275:=n9_;clear n0_ n1_ n2_ n3_ n4_ n5_ n6_ n7_ n8_ n9_;clear hb hbox hg;have hnb6:=NB274_275.out;have hnc6:=NB275_274.out;have hnb7:=NB274_276.out;have hnc7:=NB276_274.out;have hcz8_0 : w5.cell? ⟨gb274,0,none⟩ = some (.slice A0_0 l0_0.length c0_0):=(zc_ BK274.out 0).trans rfl;have hfz8_0:=zf_ BK274.out 0)|((with_reducible refine gate_callee (f:=16) rfl ?_);refine goesL_ (some 6) rfl rfl Try.func16 (by kernel_rfl) rfl #[.slice A0_0 l0_0.length c0_0] rfl zq_ ?_;(with_reducible refine (laws_toTreeNodeS.calls k _ _ l0_0 t277 _ ?side1 ?side2 A2.out).mono ?_);(case side1 => repeat (first|exact (Kd.C_below HR0_0.out HB.out)|(with_reducible refine Kd.C_alloc ?_ _)|(with_reducible refine Kd.C_drewN ?_ _)|(with_reducible refine Kd.C_drew ?_)));(case side2 => exact HC0_0.out);rintro e w9 ⟨v278,rfl,ho0,hb⟩;refine ⟨_,rfl,?_⟩;have n0_:=zm_ (Kd.S_lower ho0 (below_size (by repeat (first|(with_reducible first|exact HB.out|apply za_|apply zn_|apply zd_|refine zs_ ?_ GE274.out|refine zs_ ?_ GE275.out|refine zs_ ?_ GE276.out)|exact HB.out))));have n1_:=zm_ (blk_below (g:=gb274) (o:=.cells #[.slice A0_0 l0_0.length c0_0] 27 (0,0)) (by (with_reducible repeat first|refine zl_ ?_ _|refine zr_ ?_|refine zk_ ?_ _);exact BK274.out) hb);have n2_:=zm_ (blk_below (g:=gb275) (o:=.cells #[.slice none 0 0] 37 (0,0)) (by (with_reducible repeat first|refine zl_ ?_ _|refine zr_ ?_|refine zk_ ?_ _);exact BK275.out) hb);have n3_:=zm_ (blk_below (g:=gb276) (o:=.cells #[.slice none 0 0] 37 (0,0)) (by (with_reducible repeat first|refine zl_ ?_ _|refine zr_ ?_|refine zk_ ?_ _);exact BK276.out) hb);have n4_:=zm_ (below_step (by repeat (first|(with_reducible first|exact HB.out|apply za_|apply zn_|apply zd_|refine zs_ ?_ GE274.out|refine zs_ ?_ GE275.out|refine zs_ ?_ GE276.out)|exact HB.out)) hb);clear BK274;clear BK275;clear BK276;clear HB;have HO279:=n0_;have BK274:=n1_;have BK275:=n2_;have BK276:=n3_;have HB:=n4_;clear n0_ n1_ n2_ n3_ n4_;(try clear hb);(try clear hb2);(try clear hk);(try clear hi);(try clear ho0);obtain ⟨Ao10,co10,eo10⟩:=Kd.S_slice HO279.out;subst eo10;have hnb11:=NB276_275.out;have hnc11:=NB275_276.out;have hcz12_0 : w9.cell? ⟨gb276,0,none⟩ = some (.slice none 0 0):=(zc_ BK276.out 0).trans rfl;have hfz12_0:=zf_ BK276.out 0;have hcz13_0 : w9.cell? ⟨gb275,0,none⟩ = some (.slice none 0 0):=(zc_ BK275.out 0).trans rfl;have hfz13_0:=zf_ BK275.out 0))
 refine bodyPost_ret (results_cell_row rfl _ _ gb275 37 #[.slice Ao10 t277.length co10] (0,0) _ rfl (by (with_reducible repeat first|refine zl_ ?_ _|refine zr_ ?_|refine zk_ ?_ _);refine blk_put (cs:=#[.slice none 0 0]) ?_ 0 _ rfl;(with_reducible repeat first|refine zl_ ?_ _|refine zr_ ?_|refine zk_ ?_ _);refine blk_far ?_ NB275_276.out _;(with_reducible repeat first|refine zl_ ?_ _|refine zr_ ?_|refine zk_ ?_ _);exact BK275.out) Try.underlying37 rfl (by kernel_rfl)) rfl ?_
 exact ⟨_,by first|rfl|(simp [errW_none,errW_some] <;> rfl)|(simp [*,errW_none,errW_some] <;> rfl),by (with_reducible repeat (first|apply Kd.S_alloc|apply Kd.S_drewN|apply Kd.S_drew));exact Kd.S_mono (Kd.S_far (p:=⟨gb275,0,none⟩) (Kd.S_far (p:=⟨gb276,0,none⟩) (Kd.S_types (Kd.S_types HO279.out BK276.out (by decide)) BK275.out (by decide)) (fun _ hk => hk.1.2) (.slice Ao10 t277.length co10)) (fun _ hk => hk.2) (.slice Ao10 t277.length co10)) (fun _ hk => trivial),by repeat (first|(with_reducible first|exact HB.out|apply za_|apply zn_|apply zd_|refine zs_ ?_ GE274.out|refine zs_ ?_ GE275.out|refine zs_ ?_ GE276.out)|exact HB.out)⟩

def impl_within.f (a0 : Int) (a1 : Int) (a2 : Int) : Option (Bool):=if a0 ≥ a1 then (some (decide (a0 ≤ a2))) else (some false)
set_option maxHeartbeats 8000000 in
set_option maxRecDepth 100000 in
theorem impl_within.calls (a0 : Int) (a1 : Int) (a2 : Int) (r : Bool) (w : World) (h : impl_within.f a0 a1 a2 = some r) :
  Calls Try.prog 18 #[.int .i64 a0,.int .i64 a1,.int .i64 a2] w fun e w' => e = .returned (.bool r) ∧ Drawn0 w w':=by
 have H : (if a0 ≥ a1 then (some (decide (a0 ≤ a2))) else (some false)) = some r:=h
 clear h
 by_cases c4 : a0 ≥ a1
 ·rw [if_pos c4] at H
  have c4b0 : decide (a1 ≤ a0) = true:=decide_eq_true c4
  clear c4
  obtain rfl:=Option.some.inj H
  go_enter Try.func18,Try.ntmps18
  go_wp2
  go_ret
  exact ⟨by first|rfl|(simp;done)|(simp [*];done),by repeat (first|exact Drawn0.refl _|apply Drawn0.step)⟩
 ·rw [if_neg c4] at H
  have c4b0 : decide (a1 ≤ a0) = false:=decide_eq_false c4
  clear c4
  obtain rfl:=Option.some.inj H
  go_enter Try.func18,Try.ntmps18
  go_wp2
  go_ret
  exact ⟨by first|rfl|(simp;done)|(simp [*];done),by repeat (first|exact Drawn0.refl _|apply Drawn0.step)⟩

def impl_kidsAhead.l0 : Nat → Int → List Int → Int → Int → Option (Bool)
 |0,_,_,_,_ => none
 |k + 1,x1,x7,x8,x9 => if x9 < x8 then (if 0 ≤ x9 then (if x9 < (x7.length : Int) then ((impl_within.f (rd x7 x9) 0 (wrap64 (x1 - 1))).bind fun t281 => (if t281 = true then (impl_kidsAhead.l0 k x1 x7 x8 (wrap64 (x9 + 1))) else (some false))) else (none)) else (none)) else (some true)
def impl_kidsAhead.f (k : Nat) (l0 : List Int) (a1 : Int) : Option (Bool):=impl_kidsAhead.l0 k a1 l0 (l0.length : Int) 0
theorem impl_kidsAhead.mono_l : ∀ k,(∀ y0 y1 y2 y3,LeO (impl_kidsAhead.l0 k y0 y1 y2 y3) (impl_kidsAhead.l0 (k + 1) y0 y1 y2 y3))
 |0 => fun _ _ _ _ r h => by simp [impl_kidsAhead.l0] at h
 |k + 1 => by
  have ih0:=impl_kidsAhead.mono_l k
  ·intro y0 y1 y2 y3
   unfold impl_kidsAhead.l0
   repeat' first
   |(with_reducible exact ih0 _ _ _ _)
   |(with_reducible exact LeO.refl _)
   |(with_reducible exact LeO.none _)
   |(with_reducible refine LeO.ite ?_ ?_)
   |(with_reducible refine LeO.bind ?_ (fun _ => ?_))
theorem impl_kidsAhead.mono : ∀ a0 a1 k,LeO (impl_kidsAhead.f k a0 a1) (impl_kidsAhead.f (k + 1) a0 a1):=by
 intro a0 a1 k
 have ih0:=impl_kidsAhead.mono_l k
 unfold impl_kidsAhead.f
 repeat' first
   |(with_reducible exact ih0 _ _ _ _)
   |(with_reducible exact LeO.refl _)
   |(with_reducible exact LeO.none _)
   |(with_reducible refine LeO.ite ?_ ?_)
   |(with_reducible refine LeO.bind ?_ (fun _ => ?_))
set_option maxHeartbeats 8000000 in
set_option maxRecDepth 100000 in
theorem impl_kidsAhead.calls (k : Nat) (A0 : Option Addr) (c0 : Nat) (l0 : List Int) (a1 : Int) (r : Bool) (w : World) (hr0 : Kd.C (Kd.int .i64) w A0 l0.length l0) (hc0 : l0.length ≤ c0) (h : impl_kidsAhead.f k l0 a1 = some r) :
  Calls Try.prog 26 #[.slice A0 l0.length c0,.int .i64 a1] w fun e w' => e = .returned (.bool r) ∧ Drawn0 w w':=by
 have HR0:=zm_ hr0
 have HC0:=zm_ hc0
 clear hr0 hc0
 have H : (impl_kidsAhead.l0 k a1 l0 (l0.length : Int) 0) = some r:=h
 clear h
 have H':=zm_ H
 clear H
 go_enter Try.func26,Try.ntmps26
 go_wp2
 go_loopg [9] k (fun kq v9 w' => ∃ (x9_1 : Int),v9 = .int .i64 x9_1 ∧ Aside0 (impl_kidsAhead.l0 kq a1 l0 (l0.length : Int) x9_1 = some r) ∧ Aside0 (kq ≤ k) ∧ Drawn0 w w')
 case atStart => exact ⟨(0),zV_,H',⟨Nat.le_refl _⟩,by repeat (first|exact Drawn0.refl _|apply Drawn0.step)⟩
 case round =>
  clear H'
  try clear c2
  try clear p2
  obtain ⟨x9_1,rfl,HA,HK1,⟨m1,rfl⟩⟩:=hrel
  cases gk with
  |zero => exact absurd HA.out (by simp [impl_kidsAhead.l0])
  |succ k1 =>
   have H:=HA.out
   clear HA
   simp only [impl_kidsAhead.l0] at H
   by_cases c3 : x9_1 < (l0.length : Int)
   ·rw [if_pos c3] at H
    have c3b0 : decide (x9_1 < (l0.length : Int)) = true:=decide_eq_true c3
    clear c3
    by_cases c4 : 0 ≤ x9_1
    ·rw [if_pos c4] at H
     have c4b0 : decide (0 ≤ x9_1) = true:=decide_eq_true c4
     clear c4
     by_cases c5 : x9_1 < (l0.length : Int)
     ·rw [if_pos c5] at H
      have c5b0 : decide (x9_1 < (l0.length : Int)) = true:=decide_eq_true c5
      clear c5
      replace H:=Option.bind_eq_some_iff.mp H
      obtain ⟨t281,A60,H⟩:=H
      replace H : (if t281 = true then (impl_kidsAhead.l0 k1 a1 l0 (l0.length : Int) (wrap64 (x9_1 + 1))) else (some false)) = some r:=H
      have A6:=zm_ A60
      clear A60
      by_cases c7 : t281 = true
      ·subst c7
       have H1 : (impl_kidsAhead.l0 k1 a1 l0 (l0.length : Int) (wrap64 (x9_1 + 1))) = some r:=by rw [if_pos rfl] at H;exact H
       clear H
       have H:=H1
       clear H1
       have H':=zm_ H
       clear H
       have p280 : 0 ≤ (x9_1 : Int):=zo_
       have q280 : x9_1 < (l0.length : Int):=zo_
       obtain ⟨ad280,e280,hx280_0⟩:=Kd.at_int HR0.out x9_1 p280 q280
       cases e280
       replace p280:=eq_true p280
       replace q280:=eq_true q280
       go_wp2_with (first|((with_reducible refine gate_callee (f:=18) rfl ?_);refine goesL_ (some 16) rfl rfl Try.func18 (by kernel_rfl) rfl #[.int .i64 (rd l0 x9_1),.int .i64 0,.int .i64 (wrap64 (a1 - 1))] rfl zq_ ?_;(with_reducible refine (impl_within.calls (rd l0 x9_1) 0 (wrap64 (a1 - 1)) true _ A6.out).mono ?_);rintro e w' ⟨rfl,⟨nd,rfl⟩⟩;refine ⟨_,rfl,?_⟩))
       go_roundg k1
       case measure => have:=HK1.out;omega
       case rel => exact ⟨(wrap64 (x9_1 + 1)),zV_,H',⟨by have:=HK1.out;omega⟩,by repeat (first|exact Drawn0.refl _|apply Drawn0.step)⟩
      ·replace c7:=Bool.eq_false_iff.mpr c7
       subst c7
       have H1 : (some false) = some r:=by rw [if_neg (show ¬ (false = true) by decide)] at H;exact H
       clear H
       have H:=H1
       clear H1
       obtain rfl:=Option.some.inj H
       have p280 : 0 ≤ (x9_1 : Int):=zo_
       have q280 : x9_1 < (l0.length : Int):=zo_
       obtain ⟨ad280,e280,hx280_0⟩:=Kd.at_int HR0.out x9_1 p280 q280
       cases e280
       replace p280:=eq_true p280
       replace q280:=eq_true q280
       go_wp2_with (first|((with_reducible refine gate_callee (f:=18) rfl ?_);refine goesL_ (some 16) rfl rfl Try.func18 (by kernel_rfl) rfl #[.int .i64 (rd l0 x9_1),.int .i64 0,.int .i64 (wrap64 (a1 - 1))] rfl zq_ ?_;(with_reducible refine (impl_within.calls (rd l0 x9_1) 0 (wrap64 (a1 - 1)) false _ A6.out).mono ?_);rintro e w' ⟨rfl,⟨nd,rfl⟩⟩;refine ⟨_,rfl,?_⟩))
       go_ret
       exact ⟨by first|rfl|(simp;done)|(simp [*];done),by repeat (first|exact Drawn0.refl _|apply Drawn0.step)⟩
     ·rw [if_neg c5] at H
      exact absurd H (by simp)
    ·rw [if_neg c4] at H
     exact absurd H (by simp)
   ·rw [if_neg c3] at H
    have c3b0 : decide (x9_1 < (l0.length : Int)) = false:=decide_eq_false c3
    clear c3
    obtain rfl:=Option.some.inj H
    go_wp2
    go_ret
    exact ⟨by first|rfl|(simp;done)|(simp [*];done),by repeat (first|exact Drawn0.refl _|apply Drawn0.step)⟩

def impl_kidsRight.l0 : Nat → List (S47) → Int → Int → Option (Bool)
 |0,_,_,_ => none
 |k + 1,x6,x7,x8 => if x8 < x7 then (if 0 ≤ x8 then (if x8 < (x6.length : Int) then ((impl_kidsAhead.f k ((rd_T47 x6 x8).f5) x8).bind fun t285 => (if t285 = true then (impl_kidsRight.l0 k x6 x7 (wrap64 (x8 + 1))) else (some false))) else (none)) else (none)) else (some true)
def impl_kidsRight.f (k : Nat) (l0_0 : List (S47)) : Option (Bool):=impl_kidsRight.l0 k l0_0 (l0_0.length : Int) 0
theorem impl_kidsRight.mono_l : ∀ k,(∀ y0 y1 y2,LeO (impl_kidsRight.l0 k y0 y1 y2) (impl_kidsRight.l0 (k + 1) y0 y1 y2))
 |0 => fun _ _ _ r h => by simp [impl_kidsRight.l0] at h
 |k + 1 => by
  have ih0:=impl_kidsRight.mono_l k
  ·intro y0 y1 y2
   unfold impl_kidsRight.l0
   repeat' first
   |(with_reducible exact ih0 _ _ _)
   |(with_reducible exact impl_kidsAhead.mono _ _ _)
   |(with_reducible exact LeO.refl _)
   |(with_reducible exact LeO.none _)
   |(with_reducible refine LeO.ite ?_ ?_)
   |(with_reducible refine LeO.bind ?_ (fun _ => ?_))
theorem impl_kidsRight.mono : ∀ a0 k,LeO (impl_kidsRight.f k a0) (impl_kidsRight.f (k + 1) a0):=by
 intro a0 k
 have ih0:=impl_kidsRight.mono_l k
 unfold impl_kidsRight.f
 repeat' first
   |(with_reducible exact ih0 _ _ _)
   |(with_reducible exact impl_kidsAhead.mono _ _ _)
   |(with_reducible exact LeO.refl _)
   |(with_reducible exact LeO.none _)
   |(with_reducible refine LeO.ite ?_ ?_)
   |(with_reducible refine LeO.bind ?_ (fun _ => ?_))
set_option maxHeartbeats 8000000 in
set_option maxRecDepth 100000 in
theorem impl_kidsRight.calls (k : Nat) (A0_0 : Option Addr) (c0_0 : Nat) (l0_0 : List (S47)) (r : Bool) (w : World) (hr0_0 : Kd.C k47 w A0_0 l0_0.length l0_0) (hc0_0 : l0_0.length ≤ c0_0) (h : impl_kidsRight.f k l0_0 = some r) :
  Calls Try.prog 17 #[.agg #[.slice A0_0 l0_0.length c0_0]] w fun e w' => e = .returned (.bool r) ∧ Below w.heap.size w w':=by
 have hu37:=Try.underlying37
 have hu47:=Try.underlying47
 have HR0_0:=zm_ hr0_0
 have HC0_0:=zm_ hc0_0
 clear hr0_0 hc0_0
 have HB:=zm_ (Below.refl w.heap.size w)
 have H : (impl_kidsRight.l0 k l0_0 (l0_0.length : Int) 0) = some r:=h
 clear h
 have H':=zm_ H
 clear H
 go_enter Try.func17,Try.ntmps17
 go_wp2_with (first|((with_reducible refine gate_dst (N:=1) rfl ?_);refine box_event ?hg (N:=1) ?hd (cs:=#[.slice A0_0 l0_0.length c0_0]) (t:=37) ?hr ?_;(case hd => rfl);(case hg => rfl);(case hr => first|(go_simp;done)|(go_simp;rfl));intro gb282 hg w2 hbox hb;have n0_:=zm_ (below_step zB_ hb);have n1_:=zm_ (hbox);have n2_:=zm_ ((by rw [hg];exact (below_size zB_) : w.heap.size ≤ gb282));have n3_:=zm_ ((by rw [hg];exact (below_size zB_) : w.heap.size ≤ gb282));clear HB;have HB:=n0_;have BK282:=n1_;have GW282:=n2_;have GE282:=n3_;clear n0_ n1_ n2_ n3_;clear hb hbox hg;have hcz3_0 : w2.cell? ⟨gb282,0,none⟩ = some (.slice A0_0 l0_0.length c0_0):=(zc_ BK282.out 0).trans rfl;have hfz3_0:=zf_ BK282.out 0))
 go_loopg [8] k (fun kq v8 w' => ∃ (x8_1 : Int),v8 = .int .i64 x8_1 ∧ Aside0 (impl_kidsRight.l0 kq l0_0 (l0_0.length : Int) x8_1 = some r) ∧ Aside0 (kq ≤ k) ∧ Aside0 (w'.heap[gb282]? = some (.cells #[(.slice A0_0 l0_0.length c0_0)] 37 (0,0))) ∧ Aside0 (Below w.heap.size w w'))
 case atStart => exact ⟨(0),zV_,H',⟨Nat.le_refl _⟩,⟨by (with_reducible repeat first|refine zl_ ?_ _|refine zr_ ?_|refine zk_ ?_ _);exact BK282.out⟩,⟨by repeat (first|(with_reducible first|exact HB.out|apply za_|apply zn_|apply zd_|refine zs_ ?_ GE282.out)|exact HB.out)⟩⟩
 case round =>
  clear H'
  try clear c1
  try clear p2
  try clear hcz3_0
  try clear hfz3_0
  obtain ⟨x8_1,rfl,HA,HK1,BK282,HB⟩:=hrel
  cases gk with
  |zero => exact absurd HA.out (by simp [impl_kidsRight.l0])
  |succ k1 =>
   have H:=HA.out
   clear HA
   simp only [impl_kidsRight.l0] at H
   by_cases c4 : x8_1 < (l0_0.length : Int)
   ·rw [if_pos c4] at H
    have c4b0 : decide (x8_1 < (l0_0.length : Int)) = true:=decide_eq_true c4
    clear c4
    by_cases c5 : 0 ≤ x8_1
    ·rw [if_pos c5] at H
     have c5b0 : decide (0 ≤ x8_1) = true:=decide_eq_true c5
     clear c5
     by_cases c6 : x8_1 < (l0_0.length : Int)
     ·rw [if_pos c6] at H
      have c6b0 : decide (x8_1 < (l0_0.length : Int)) = true:=decide_eq_true c6
      clear c6
      replace H:=Option.bind_eq_some_iff.mp H
      obtain ⟨t285,A70,H⟩:=H
      replace H : (if t285 = true then (impl_kidsRight.l0 k1 l0_0 (l0_0.length : Int) (wrap64 (x8_1 + 1))) else (some false)) = some r:=H
      have A7:=zm_ A70
      clear A70
      by_cases c8 : t285 = true
      ·subst c8
       have H1 : (impl_kidsRight.l0 k1 l0_0 (l0_0.length : Int) (wrap64 (x8_1 + 1))) = some r:=by rw [if_pos rfl] at H;exact H
       clear H
       have H:=H1
       clear H1
       have H':=zm_ H
       clear H
       have p283 : 0 ≤ (x8_1 : Int):=zo_
       have q283 : x8_1 < (l0_0.length : Int):=zo_
       obtain ⟨ad283,A283_2,c283_2,A283_5,c283_5,e283,hx283_0,hx283_1,hx283_2,hx283_3,hx283_4,hx283_5,hl283_2,hi283_2,hl283_5,hi283_5⟩:=at_T47 HR0_0.out x8_1 p283 q283
       cases e283
       replace hx283_0:=(HB.out.cell (zb_ w _ hx283_0)).trans hx283_0
       replace hx283_1:=(HB.out.cell (zb_ w _ hx283_1)).trans hx283_1
       replace hx283_2:=(HB.out.cell (zb_ w _ hx283_2)).trans hx283_2
       replace hx283_3:=(HB.out.cell (zb_ w _ hx283_3)).trans hx283_3
       replace hx283_4:=(HB.out.cell (zb_ w _ hx283_4)).trans hx283_4
       replace hx283_5:=(HB.out.cell (zb_ w _ hx283_5)).trans hx283_5
       have HR283_2:=zm_ hi283_2
       have HC283_2:=zm_ hl283_2
       clear hi283_2 hl283_2
       have HR283_5:=zm_ hi283_5
       have HC283_5:=zm_ hl283_5
       clear hi283_5 hl283_5
       replace p283:=eq_true p283
       replace q283:=eq_true q283
       go_wp2_with (first|((with_reducible refine gate_dst (N:=4) rfl ?_);refine box_event ?hg (N:=4) ?hd (cs:=#[.int .i64 0,.int .i64 0,.slice none 0 0,.int .i64 0,.int .i64 0,.slice none 0 0]) (t:=47) ?hr ?_;(case hd => rfl);(case hg => rfl);(case hr => first|(go_simp;done)|(go_simp;rfl));intro gb284 hg w9 hbox hb;have n0_:=zm_ (blk_below (g:=gb282) (o:=.cells #[.slice (some ad283) l0_0.length c0_0] 37 (0,0)) (by (with_reducible repeat first|refine zl_ ?_ _|refine zr_ ?_|refine zk_ ?_ _);exact BK282.out) hb);have n1_:=zm_ (below_step (by repeat (first|(with_reducible first|exact HB.out|apply za_|apply zn_|apply zd_|refine zs_ ?_ GE282.out)|exact HB.out)) hb);have n2_:=zm_ (hbox);have n3_:=zm_ ((by rw [hg];exact (below_size (by repeat (first|(with_reducible first|exact HB.out|apply za_|apply zn_|apply zd_|refine zs_ ?_ GE282.out)|exact HB.out))) : w.heap.size ≤ gb284));have n4_:=zm_ ((by rw [hg];exact (below_size (by repeat (first|(with_reducible first|exact HB.out|apply za_|apply zn_|apply zd_|refine zs_ ?_ GE282.out)|exact HB.out))) : w.heap.size ≤ gb284));have n5_:=zm_ ((by rw [hg];exact Nat.ne_of_lt (blk_lt (g:=gb282) (o:=.cells #[.slice (some ad283) l0_0.length c0_0] 37 (0,0)) (by (with_reducible repeat first|refine zl_ ?_ _|refine zr_ ?_|refine zk_ ?_ _);exact BK282.out)) : gb282 ≠ gb284));have n6_:=zm_ ((by rw [hg];exact Nat.ne_of_gt (blk_lt (g:=gb282) (o:=.cells #[.slice (some ad283) l0_0.length c0_0] 37 (0,0)) (by (with_reducible repeat first|refine zl_ ?_ _|refine zr_ ?_|refine zk_ ?_ _);exact BK282.out)) : gb284 ≠ gb282));clear BK282;clear HB;have BK282:=n0_;have HB:=n1_;have BK284:=n2_;have GW284:=n3_;have GE284:=n4_;have NB282_284:=n5_;have NB284_282:=n6_;clear n0_ n1_ n2_ n3_ n4_ n5_ n6_;clear hb hbox hg;have hnb10:=NB284_282.out;have hnc10:=NB282_284.out;have hcz11_0 : w9.cell? ⟨gb284,0,none⟩ = some (.int .i64 0):=(zc_ BK284.out 0).trans rfl;have hcz11_1 : w9.cell? ⟨gb284,1,none⟩ = some (.int .i64 0):=(zc_ BK284.out 1).trans rfl;have hcz11_2 : w9.cell? ⟨gb284,2,none⟩ = some (.slice none 0 0):=(zc_ BK284.out 2).trans rfl;have hcz11_3 : w9.cell? ⟨gb284,3,none⟩ = some (.int .i64 0):=(zc_ BK284.out 3).trans rfl;have hcz11_4 : w9.cell? ⟨gb284,4,none⟩ = some (.int .i64 0):=(zc_ BK284.out 4).trans rfl;have hcz11_5 : w9.cell? ⟨gb284,5,none⟩ = some (.slice none 0 0):=(zc_ BK284.out 5).trans rfl;have hfz11_0:=zf_ BK284.out 0;have hfz11_1:=zf_ BK284.out 1;have hfz11_2:=zf_ BK284.out 2;have hfz11_3:=zf_ BK284.out 3;have hfz11_4:=zf_ BK284.out 4;have hfz11_5:=zf_ BK284.out 5)|((with_reducible refine gate_callee (f:=26) rfl ?_);refine goesL_ (some 16) rfl rfl Try.func26 (by kernel_rfl) rfl #[.slice A283_5 ((rd_T47 l0_0 x8_1).f5).length c283_5,.int .i64 x8_1] rfl zq_ ?_;(with_reducible refine (impl_kidsAhead.calls k1 _ _ ((rd_T47 l0_0 x8_1).f5) x8_1 true _ ?side1 ?side2 A7.out).mono ?_);(case side1 => exact Kd.C_below HR283_5.out (by repeat (first|(with_reducible first|exact HB.out|apply za_|apply zn_|apply zd_|refine zs_ ?_ GE282.out|refine zs_ ?_ GE284.out)|exact HB.out)));(case side2 => exact HC283_5.out);rintro e w' ⟨rfl,⟨nd,rfl⟩⟩;refine ⟨_,rfl,?_⟩))
       go_roundg k1
       case measure => have:=HK1.out;omega
       case rel => exact ⟨(wrap64 (x8_1 + 1)),zV_,H',⟨by have:=HK1.out;omega⟩,⟨by (with_reducible repeat first|refine zl_ ?_ _|refine zr_ ?_|refine zk_ ?_ _);refine blk_far ?_ NB282_284.out _;(with_reducible repeat first|refine zl_ ?_ _|refine zr_ ?_|refine zk_ ?_ _);refine blk_far ?_ NB282_284.out _;(with_reducible repeat first|refine zl_ ?_ _|refine zr_ ?_|refine zk_ ?_ _);refine blk_far ?_ NB282_284.out _;(with_reducible repeat first|refine zl_ ?_ _|refine zr_ ?_|refine zk_ ?_ _);refine blk_far ?_ NB282_284.out _;(with_reducible repeat first|refine zl_ ?_ _|refine zr_ ?_|refine zk_ ?_ _);refine blk_far ?_ NB282_284.out _;(with_reducible repeat first|refine zl_ ?_ _|refine zr_ ?_|refine zk_ ?_ _);refine blk_far ?_ NB282_284.out _;(with_reducible repeat first|refine zl_ ?_ _|refine zr_ ?_|refine zk_ ?_ _);exact BK282.out⟩,⟨by repeat (first|(with_reducible first|exact HB.out|apply za_|apply zn_|apply zd_|refine zs_ ?_ GE282.out|refine zs_ ?_ GE284.out)|exact HB.out)⟩⟩
      ·replace c8:=Bool.eq_false_iff.mpr c8
       subst c8
       have H1 : (some false) = some r:=by rw [if_neg (show ¬ (false = true) by decide)] at H;exact H
       clear H
       have H:=H1
       clear H1
       obtain rfl:=Option.some.inj H
       have p283 : 0 ≤ (x8_1 : Int):=zo_
       have q283 : x8_1 < (l0_0.length : Int):=zo_
       obtain ⟨ad283,A283_2,c283_2,A283_5,c283_5,e283,hx283_0,hx283_1,hx283_2,hx283_3,hx283_4,hx283_5,hl283_2,hi283_2,hl283_5,hi283_5⟩:=at_T47 HR0_0.out x8_1 p283 q283
       cases e283
       replace hx283_0:=(HB.out.cell (zb_ w _ hx283_0)).trans hx283_0
       replace hx283_1:=(HB.out.cell (zb_ w _ hx283_1)).trans hx283_1
       replace hx283_2:=(HB.out.cell (zb_ w _ hx283_2)).trans hx283_2
       replace hx283_3:=(HB.out.cell (zb_ w _ hx283_3)).trans hx283_3
       replace hx283_4:=(HB.out.cell (zb_ w _ hx283_4)).trans hx283_4
       replace hx283_5:=(HB.out.cell (zb_ w _ hx283_5)).trans hx283_5
       have HR283_2:=zm_ hi283_2
       have HC283_2:=zm_ hl283_2
       clear hi283_2 hl283_2
       have HR283_5:=zm_ hi283_5
       have HC283_5:=zm_ hl283_5
       clear hi283_5 hl283_5
       replace p283:=eq_true p283
       replace q283:=eq_true q283
       go_wp2_with (first|((with_reducible refine gate_dst (N:=4) rfl ?_);refine box_event ?hg (N:=4) ?hd (cs:=#[.int .i64 0,.int .i64 0,.slice none 0 0,.int .i64 0,.int .i64 0,.slice none 0 0]) (t:=47) ?hr ?_;(case hd => rfl);(case hg => rfl);(case hr => first|(go_simp;done)|(go_simp;rfl));intro gb284 hg w12 hbox hb;have n0_:=zm_ (blk_below (g:=gb282) (o:=.cells #[.slice (some ad283) l0_0.length c0_0] 37 (0,0)) (by (with_reducible repeat first|refine zl_ ?_ _|refine zr_ ?_|refine zk_ ?_ _);exact BK282.out) hb);have n1_:=zm_ (below_step (by repeat (first|(with_reducible first|exact HB.out|apply za_|apply zn_|apply zd_|refine zs_ ?_ GE282.out)|exact HB.out)) hb);have n2_:=zm_ (hbox);have n3_:=zm_ ((by rw [hg];exact (below_size (by repeat (first|(with_reducible first|exact HB.out|apply za_|apply zn_|apply zd_|refine zs_ ?_ GE282.out)|exact HB.out))) : w.heap.size ≤ gb284));have n4_:=zm_ ((by rw [hg];exact (below_size (by repeat (first|(with_reducible first|exact HB.out|apply za_|apply zn_|apply zd_|refine zs_ ?_ GE282.out)|exact HB.out))) : w.heap.size ≤ gb284));have n5_:=zm_ ((by rw [hg];exact Nat.ne_of_lt (blk_lt (g:=gb282) (o:=.cells #[.slice (some ad283) l0_0.length c0_0] 37 (0,0)) (by (with_reducible repeat first|refine zl_ ?_ _|refine zr_ ?_|refine zk_ ?_ _);exact BK282.out)) : gb282 ≠ gb284));have n6_:=zm_ ((by rw [hg];exact Nat.ne_of_gt (blk_lt (g:=gb282) (o:=.cells #[.slice (some ad283) l0_0.length c0_0] 37 (0,0)) (by (with_reducible repeat first|refine zl_ ?_ _|refine zr_ ?_|refine zk_ ?_ _);exact BK282.out)) : gb284 ≠ gb282));clear BK282;clear HB;have BK282:=n0_;have HB:=n1_;have BK284:=n2_;have GW284:=n3_;have GE284:=n4_;have NB282_284:=n5_;have NB284_282:=n6_;clear n0_ n1_ n2_ n3_ n4_ n5_ n6_;clear hb hbox hg;have hnb13:=NB284_282.out;have hnc13:=NB282_284.out;have hcz14_0 : w12.cell? ⟨gb284,0,none⟩ = some (.int .i64 0):=(zc_ BK284.out 0).trans rfl;have hcz14_1 : w12.cell? ⟨gb284,1,none⟩ = some (.int .i64 0):=(zc_ BK284.out 1).trans rfl;have hcz14_2 : w12.cell? ⟨gb284,2,none⟩ = some (.slice none 0 0):=(zc_ BK284.out 2).trans rfl;have hcz14_3 : w12.cell? ⟨gb284,3,none⟩ = some (.int .i64 0):=(zc_ BK284.out 3).trans rfl;have hcz14_4 : w12.cell? ⟨gb284,4,none⟩ = some (.int .i64 0):=(zc_ BK284.out 4).trans rfl;have hcz14_5 : w12.cell? ⟨gb284,5,none⟩ = some (.slice none 0 0):=(zc_ BK284.out 5).trans rfl;have hfz14_0:=zf_ BK284.out 0;have hfz14_1:=zf_ BK284.out 1;have hfz14_2:=zf_ BK284.out 2;have hfz14_3:=zf_ BK284.out 3;have hfz14_4:=zf_ BK284.out 4;have hfz14_5:=zf_ BK284.out 5)|((with_reducible refine gate_callee (f:=26) rfl ?_);refine goesL_ (some 16) rfl rfl Try.func26 (by kernel_rfl) rfl #[.slice A283_5 ((rd_T47 l0_0 x8_1).f5).length c283_5,.int .i64 x8_1] rfl zq_ ?_;(with_reducible refine (impl_kidsAhead.calls k1 _ _ ((rd_T47 l0_0 x8_1).f5) x8_1 false _ ?side1 ?side2 A7.out).mono ?_);(case side1 => exact Kd.C_below HR283_5.out (by repeat (first|(with_reducible first|exact HB.out|apply za_|apply zn_|apply zd_|refine zs_ ?_ GE282.out|refine zs_ ?_ GE284.out)|exact HB.out)));(case side2 => exact HC283_5.out);rintro e w' ⟨rfl,⟨nd,rfl⟩⟩;refine ⟨_,rfl,?_⟩))
       go_ret
       exact ⟨zE_,by repeat (first|(with_reducible first|exact HB.out|apply za_|apply zn_|apply zd_|refine zs_ ?_ GE282.out|refine zs_ ?_ GE284.out)|exact HB.out)⟩
     ·rw [if_neg c6] at H
      exact absurd H (by simp)
    ·rw [if_neg c5] at H
     exact absurd H (by simp)
   ·rw [if_neg c4] at H
    have c4b0 : decide (x8_1 < (l0_0.length : Int)) = false:=decide_eq_false c4
    clear c4
    obtain rfl:=Option.some.inj H
    go_wp2
    go_ret
    exact ⟨zE_,by repeat (first|(with_reducible first|exact HB.out|apply za_|apply zn_|apply zd_|refine zs_ ?_ GE282.out)|exact HB.out)⟩


def strings_Join.f (l0 : List ByteArray) (a1 : ByteArray) : Option (ByteArray × List ByteArray):=if (Lib.join (l0.map (·.data.toList)) a1.data.toList).length ≤ 140737488355328 then (if l0.length ≤ 140737488355328 then some (⟨(Lib.join (l0.map (·.data.toList)) a1.data.toList).toArray⟩,l0) else none) else none
theorem strings_Join.calls (P0_ : Nat → Prop) (u9000_ : Value) (l0 : List ByteArray) (a1 : ByteArray) (r1 : ByteArray) (r2 : List ByteArray) (w0 w : World) (hB : Below w0.heap.size w0 w) (ho0 : Kd.R Kd.string 9 w w0.heap.size P0_ u9000_ l0) (h : strings_Join.f l0 a1 = some (r1,r2)) :
  Calls Try.prog 19 #[u9000_,.string a1] w fun e w' => e = .returned (.string r1) ∧ Kd.R Kd.string 9 w' w0.heap.size (fun k_ => (P0_ k_ ∨ w.heap.size ≤ k_)) u9000_ r2 ∧ Below w0.heap.size w0 w' ∧ Kept w w' (fun k_ => P0_ k_):=by
 unfold strings_Join.f at h
 by_cases h0 : (Lib.join (l0.map (·.data.toList)) a1.data.toList).length ≤ 140737488355328
 ·rw [if_pos h0] at h
  by_cases h1 : l0.length ≤ 140737488355328
  ·rw [if_pos h1] at h
   simp only [Option.some.injEq,Prod.mk.injEq] at h
   obtain ⟨rfl,rfl⟩:=h
   exact Jn.join_own P0_ u9000_ l0 a1 w0 w hB ho0 h1 h0
  ·rw [if_neg h1] at h;cases h
 ·rw [if_neg h0] at h;cases h

end Go.Proofs.Ytkbgmojomgelbaa.MFnExactTreeText
