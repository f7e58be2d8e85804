import Derived.Test.YtnmhggdaccbbfaaMFnExprFreex0
import Derived.Test.YtnmhggdaccbbfaaMFnExprFreex4
import Derived.Test.YtnmhggdaccbbfaaMFnExprFreex5
import Derived.Test.YtnmhggdaccbbfaaMFnExprFreex6
namespace Go.Proofs.Ytnmhggdaccbbfaa.MFnExprFree
open Go.RowKit Go.Proofs.YtnmhggdaccbbfaaW.PrintWords Go.Proofs.YtnmhggdaccbbfaaW.PrintLast Go.Proofs.YtnmhggdaccbbfaaW.PrintMore
attribute [local go_sem] max2_int min2_int max_two min_two max_three min_three max_four min_four
set_option linter.unusedVariables false
set_option linter.unusedSimpArgs false
theorem zt11_54 {p : Prop} (h : p := by have h_:=Kd.N_ne HO360.out BK361.out (by decide);intro e_;exact h_ (by rw [e_];rfl)) : p := h
theorem zt11_53 {p : Prop} (h : p := by have h_:=Kd.N_ne HO360.out BK354.out (by decide);intro e_;exact h_ (by rw [e_];rfl)) : p := h
theorem zt11_52 {p : Prop} (h : p := by have h_:=Kd.N_ne HO360.out BK342.out (by decide);intro e_;exact h_ (by rw [e_];rfl)) : p := h
theorem zt11_51 {p : Prop} (h : p := by (with_reducible repeat (first|apply Kd.R_alloc|apply Kd.R_drewN|apply Kd.R_drew));exact (Kd.R_mono (Kd.R_far (p:=⟨gb354,0,none⟩) (Kd.R_types HO348.out BK354.out (by decide)) (fun _ hk => hk.2) (.slice Ao89 t349.length co89)) (fun _ h_ => h_.1))) : p := h
theorem zt11_50 {p : Prop} (h : p := by (with_reducible repeat (first|apply Kd.R_alloc|apply Kd.R_drewN|apply Kd.R_drew));exact (Kd.R_mono (Kd.R_far (p:=⟨gb354,0,none⟩) (Kd.R_types HO348.out BK354.out (by decide)) (fun _ hk => hk.2) (.slice Ao52 t349.length co52)) (fun _ h_ => h_.1))) : p := h
theorem zt11_49 {p : Prop} (h : p := by (with_reducible repeat (first|apply Kd.R_alloc|apply Kd.R_drewN|apply Kd.R_drew));exact (Kd.R_mono (Kd.R_far (p:=⟨gb354,0,none⟩) (Kd.R_types HO348.out BK354.out (by decide)) (fun _ hk => hk.2) (.slice Ao18 t349.length co18)) (fun _ h_ => h_.1))) : p := h
theorem zt11_48 {p : Prop} (h : p := by (with_reducible repeat (first|apply Kd.R_alloc|apply Kd.R_drewN|apply Kd.R_drew));exact (Kd.R_mono (Kd.R_far (p:=⟨gb354,0,none⟩) (Kd.R_types HO348.out BK354.out (by decide)) (fun _ hk => hk.2) (.slice Ao189 t349.length co189)) (fun _ h_ => h_.1))) : p := h
theorem zt11_47 {p : Prop} (h : p := by (with_reducible repeat (first|apply Kd.R_alloc|apply Kd.R_drewN|apply Kd.R_drew));exact (Kd.R_mono (Kd.R_far (p:=⟨gb354,0,none⟩) (Kd.R_types HO348.out BK354.out (by decide)) (fun _ hk => hk.2) (.slice Ao161 t349.length co161)) (fun _ h_ => h_.1))) : p := h
theorem zt11_46 {p : Prop} (h : p := by (with_reducible repeat (first|apply Kd.R_alloc|apply Kd.R_drewN|apply Kd.R_drew));exact (Kd.R_mono (Kd.R_far (p:=⟨gb354,0,none⟩) (Kd.R_types HO348.out BK354.out (by decide)) (fun _ hk => hk.2) (.slice Ao128 t349.length co128)) (fun _ h_ => h_.1))) : p := h
theorem zt11_45 {p : Prop} (h : p := by (with_reducible repeat (first|apply Kd.N_alloc|apply Kd.N_drewN|apply Kd.N_drew));exact (Kd.N_mono (Kd.N_far (p:=⟨gb354,0,none⟩) (Kd.N_mono HO351.out (fun k_ hk => (⟨hk,hk.2⟩ : _ ∧ k_ ≠ gb354))) (fun _ hk => hk.2) (.slice Ao89 t349.length co89)) (fun _ h_ => h_.1))) : p := h
theorem zt11_44 {p : Prop} (h : p := by (with_reducible repeat (first|apply Kd.N_alloc|apply Kd.N_drewN|apply Kd.N_drew));exact (Kd.N_mono (Kd.N_far (p:=⟨gb354,0,none⟩) (Kd.N_mono HO351.out (fun k_ hk => (⟨hk,hk.2⟩ : _ ∧ k_ ≠ gb354))) (fun _ hk => hk.2) (.slice Ao52 t349.length co52)) (fun _ h_ => h_.1))) : p := h
theorem zt11_43 {p : Prop} (h : p := by (with_reducible repeat (first|apply Kd.N_alloc|apply Kd.N_drewN|apply Kd.N_drew));exact (Kd.N_mono (Kd.N_far (p:=⟨gb354,0,none⟩) (Kd.N_mono HO351.out (fun k_ hk => (⟨hk,hk.2⟩ : _ ∧ k_ ≠ gb354))) (fun _ hk => hk.2) (.slice Ao18 t349.length co18)) (fun _ h_ => h_.1))) : p := h
theorem zt11_42 {p : Prop} (h : p := by (with_reducible repeat (first|apply Kd.N_alloc|apply Kd.N_drewN|apply Kd.N_drew));exact (Kd.N_mono (Kd.N_far (p:=⟨gb354,0,none⟩) (Kd.N_mono HO351.out (fun k_ hk => (⟨hk,hk.2⟩ : _ ∧ k_ ≠ gb354))) (fun _ hk => hk.2) (.slice Ao189 t349.length co189)) (fun _ h_ => h_.1))) : p := h
theorem zt11_41 {p : Prop} (h : p := by (with_reducible repeat (first|apply Kd.N_alloc|apply Kd.N_drewN|apply Kd.N_drew));exact (Kd.N_mono (Kd.N_far (p:=⟨gb354,0,none⟩) (Kd.N_mono HO351.out (fun k_ hk => (⟨hk,hk.2⟩ : _ ∧ k_ ≠ gb354))) (fun _ hk => hk.2) (.slice Ao161 t349.length co161)) (fun _ h_ => h_.1))) : p := h
theorem zt11_40 {p : Prop} (h : p := by (with_reducible repeat (first|apply Kd.N_alloc|apply Kd.N_drewN|apply Kd.N_drew));exact (Kd.N_mono (Kd.N_far (p:=⟨gb354,0,none⟩) (Kd.N_mono HO351.out (fun k_ hk => (⟨hk,hk.2⟩ : _ ∧ k_ ≠ gb354))) (fun _ hk => hk.2) (.slice Ao128 t349.length co128)) (fun _ h_ => h_.1))) : p := h
theorem zt11_39 {p : Prop} (h : p := by rw [hg];exact Nat.ne_of_gt (IsS109.lt (show IsS109 w0 _ g s0_0 t352 t353 from zt11_3))) : p := h
theorem zt11_38 {p : Prop} (h : p := by rw [hg];exact Nat.ne_of_lt (IsS109.lt (show IsS109 w0 _ g s0_0 t352 t353 from zt11_3))) : p := h
theorem zt11_37 {p : Prop} (h : p := by rw [hg];exact Nat.ne_of_gt (IsS109.lt (show IsS109 w0 _ g s0_0 t352 t353 from zt11_5))) : p := h
theorem zt11_36 {p : Prop} (h : p := by rw [hg];exact Nat.ne_of_lt (IsS109.lt (show IsS109 w0 _ g s0_0 t352 t353 from zt11_5))) : p := h
theorem zt11_35 {p : Prop} (h : p := by rw [hg];exact Nat.ne_of_gt (IsS109.lt (show IsS109 w0 _ g s0_0 s0_1 s0_2 from zt11_11))) : p := h
theorem zt11_34 {p : Prop} (h : p := by rw [hg];exact Nat.ne_of_lt (IsS109.lt (show IsS109 w0 _ g s0_0 s0_1 s0_2 from zt11_11))) : p := h
theorem zt11_33 {p : Prop} (h : p := by (with_reducible repeat (first|apply Kd.N_alloc|apply Kd.N_drewN|apply Kd.N_drew));exact HO357.out) : p := h
theorem zt11_32 {p : Prop} (h : p := by rw [hg];exact (keep_size (w:=w) (g:=g) (row:=none) zt11_1)) : p := h
theorem zt11_31 {p : Prop} (h : p := by rw [hg];exact (keep_size (w:=w) (g:=g) (row:=none) zt11_2)) : p := h
theorem zt11_30 {p : Prop} (h : p := by rw [hg];exact (keep_size (w:=w) (g:=g) (row:=none) zt11_13)) : p := h
theorem zt11_29 {p : Prop} (h : p := by repeat (first|(with_reducible first|exact HB.out|apply za_|apply zn_|apply zd_|refine zs_ ?_ (IsS109.ge HI0.out))|exact HB.out)) : p := h
theorem zt11_28 {p : Prop} (h : p := by repeat (first|(with_reducible first|exact HB.out|apply za_|apply zn_|apply zd_|refine zs_ ?_ (IsS109.ge HI0.out)|refine zs_ ?_ GE342.out|refine zs_ ?_ GE354.out|refine zs_ ?_ GE361.out)|exact HB.out)) : p := h
theorem zt11_27 {p : Prop} (h : p := by (with_reducible repeat first|refine zl_ ?_ _|refine zr_ ?_|refine zk_ ?_ _);exact BK361.out) : p := h
theorem zt11_26 {p : Prop} (h : p := by (with_reducible repeat first|refine zl_ ?_ _|refine zr_ ?_|refine zk_ ?_ _);refine blk_put (cs:=#[.slice none 0 0]) ?_ 0 _ rfl;(with_reducible repeat first|refine zl_ ?_ _|refine zr_ ?_|refine zk_ ?_ _);exact BK342.out) : p := h
theorem zt11_25 {p : Prop} (h : p := by (with_reducible repeat (first|apply Kd.N_alloc|apply Kd.N_drewN|apply Kd.N_drew));exact Kd.N_mono HO357.out (fun _ hk => ⟨hk.1,⟨hk.2.1,⟨hk.2.2.2.1,⟨hk.2.2.2.2.1,hk.2.2.2.2.2⟩⟩⟩⟩)) : p := h
theorem zt11_24 {p : Prop} (h : p := by have h_ : (t362 : Int) < ((y358.length : Int) : Int):=zo_;first|exact h_|(have e_:=(Kd.N_reads' HO360.out).1;omega)|simpa using h_) : p := h
theorem zt11_23 {p : Prop} (h : p := by (with_reducible repeat (first|apply Kd.N_alloc|apply Kd.N_drewN|apply Kd.N_drew));exact Kd.N_mono HO351.out (fun _ hk => ⟨⟨hk.1.1.1,⟨hk.1.1.2.1,⟨hk.1.1.2.2.1,⟨hk.1.1.2.2.2,hk.1.2⟩⟩⟩⟩,hk.2⟩)) : p := h
theorem zt11_22 {p : Prop} (h : p := by (with_reducible repeat first|refine zl_ ?_ _|refine zr_ ?_|refine zk_ ?_ _);refine blk_far ?_ NB354_361.out _;(with_reducible repeat first|refine zl_ ?_ _|refine zr_ ?_|refine zk_ ?_ _);exact BK354.out) : p := h
theorem zt11_21 {p : Prop} (h : p := by (with_reducible repeat first|refine zl_ ?_ _|refine zr_ ?_|refine zk_ ?_ _);refine blk_far ?_ NB342_361.out _;(with_reducible repeat first|refine zl_ ?_ _|refine zr_ ?_|refine zk_ ?_ _);exact BK342.out) : p := h
theorem zt11_20 {p : Prop} (h : p := by rw [hg];exact Nat.ne_of_gt (blk_lt (g:=gb342) (o:=.cells #[.slice none 0 0] 28 (0,0)) zt11_4)) : p := h
theorem zt11_19 {p : Prop} (h : p := by rw [hg];exact Nat.ne_of_lt (blk_lt (g:=gb342) (o:=.cells #[.slice none 0 0] 28 (0,0)) zt11_4)) : p := h
theorem zt11_18 {p : Prop} (h : p := by (with_reducible repeat first|refine zl_ ?_ _|refine zr_ ?_|refine zk_ ?_ _);refine blk_put (cs:=#[.slice none 0 0]) ?_ 0 _ rfl;(with_reducible repeat first|refine zl_ ?_ _|refine zr_ ?_|refine zk_ ?_ _);exact BK361.out) : p := h
theorem zt11_17 {p : Prop} (h : p := by (with_reducible repeat (first|apply Kd.N_alloc|apply Kd.N_drewN|apply Kd.N_drew));exact HO360.out) : p := h
theorem zt11_16 {p : Prop} (h : p := by repeat (first|(with_reducible first|exact HB.out|apply za_|apply zn_|apply zd_|refine zs_ ?_ (IsS109.ge HI0.out)|refine zs_ ?_ GE342.out)|exact HB.out)) : p := h
theorem zt11_15 {p : Prop} (h : p := by (with_reducible repeat (first|apply Kd.N_alloc|apply Kd.N_drewN|apply Kd.N_drew));exact HO351.out) : p := h
theorem zt11_14 {p : Prop} (h : p := by (with_reducible repeat first|refine zl_ ?_ _|refine zr_ ?_|refine zk_ ?_ _);refine blk_far ?_ NB342_354.out _;(with_reducible repeat first|refine zl_ ?_ _|refine zr_ ?_|refine zk_ ?_ _);exact BK342.out) : p := h
theorem zt11_13 {p : Prop} (h : p := by repeat (first|(with_reducible first|exact HK.out|apply KeepBut.set_|apply keep_drewN|apply keep_drew|apply keep_alloc)|exact HK.out)) : p := h
theorem zt11_12 {p : Prop} (h : p := by (with_reducible repeat first|refine zl_ ?_ _|refine zr_ ?_|refine zk_ ?_ _);refine blk_put (cs:=#[.slice none 0 0]) ?_ 0 _ rfl;(with_reducible repeat first|refine zl_ ?_ _|refine zr_ ?_|refine zk_ ?_ _);exact BK354.out) : p := h
theorem zt11_11 {p : Prop} (h : p := by repeat (first|(with_reducible first|exact HI0.out|apply IsS109.alloc|apply IsS109.drewN|apply IsS109.drew|apply IsS109.set_1|apply IsS109.set_2)|exact HI0.out)) : p := h
theorem zt11_10 {p : Prop} (h : p := by repeat (first|(with_reducible first|exact HB.out|apply za_|apply zn_|apply zd_|refine zs_ ?_ (IsS109.ge HI0.out)|refine zs_ ?_ GE342.out|refine zs_ ?_ GE354.out)|exact HB.out)) : p := h
theorem zt11_9 {p : Prop} (h : p := by (with_reducible repeat first|refine zl_ ?_ _|refine zr_ ?_|refine zk_ ?_ _);exact BK354.out) : p := h
theorem zt11_8 {p : Prop} (h : p := by (with_reducible repeat (first|apply Kd.R_alloc|apply Kd.R_drewN|apply Kd.R_drew));exact HO348.out) : p := h
theorem zt11_7 {p : Prop} (h : p := by repeat (first|(with_reducible first|exact HI0.out|apply IsS109.alloc|apply IsS109.drewN|apply IsS109.drew|apply IsS109.set_1|apply IsS109.set_2|refine IsS109.far ?_ NB0_342.out _|refine IsS109.far ?_ NB0_354.out _|refine IsS109.far ?_ NB0_361.out _)|exact HI0.out)) : p := h
theorem zt11_6 {p : Prop} (h : p := by repeat (first|(with_reducible first|exact HK.out|apply KeepBut.set_|apply keep_drewN|apply keep_drew|apply keep_alloc|refine keep_far ?_ GW342.out _|refine keep_far ?_ GW354.out _|refine keep_far ?_ GW361.out _)|exact HK.out)) : p := h
theorem zt11_5 {p : Prop} (h : p := by repeat (first|(with_reducible first|exact HI0.out|apply IsS109.alloc|apply IsS109.drewN|apply IsS109.drew|apply IsS109.set_1|apply IsS109.set_2|refine IsS109.far ?_ NB0_342.out _)|exact HI0.out)) : p := h
theorem zt11_4 {p : Prop} (h : p := by (with_reducible repeat first|refine zl_ ?_ _|refine zr_ ?_|refine zk_ ?_ _);exact BK342.out) : p := h
theorem zt11_3 {p : Prop} (h : p := by repeat (first|(with_reducible first|exact HI0.out|apply IsS109.alloc|apply IsS109.drewN|apply IsS109.drew|apply IsS109.set_1|apply IsS109.set_2|refine IsS109.far ?_ NB0_342.out _|refine IsS109.far ?_ NB0_354.out _)|exact HI0.out)) : p := h
theorem zt11_2 {p : Prop} (h : p := by repeat (first|(with_reducible first|exact HK.out|apply KeepBut.set_|apply keep_drewN|apply keep_drew|apply keep_alloc|refine keep_far ?_ GW342.out _)|exact HK.out)) : p := h
theorem zt11_1 {p : Prop} (h : p := by repeat (first|(with_reducible first|exact HK.out|apply KeepBut.set_|apply keep_drewN|apply keep_drew|apply keep_alloc|refine keep_far ?_ GW342.out _|refine keep_far ?_ GW354.out _)|exact HK.out)) : p := h

def spec_l04Any.f (s0_0 : List Int) (s0_1 : Int) (s0_2 : Int) : Option ((List (S34)) × Int × Int):=(spec_l01Below.f s0_0 s0_1 s0_2 16).bind fun bt343 => ((spec_l04Expr.f s0_0 bt343.2.1 bt343.2.2 (([(⟨#[97]⟩ : ByteArray),(⟨#[98]⟩ : ByteArray),(⟨#[110]⟩ : ByteArray)] : List ByteArray)) 2).bind fun bt349 => ((some (([] : List (S34)) : List (S34))).bind fun y355 => (if y355.length + bt349.1.length < 2513169434916 then ((some (y355 ++ bt349.1 : List (S34))).bind fun y358 => ((spec_l01Below.f s0_0 bt349.2.1 bt349.2.2 (y358.length : Int)).bind fun bt362 => (if bt343.1 = 0 then ((spec_l01Below.f s0_0 bt362.2.1 bt362.2.2 13).bind fun bt365 => (if 0 ≤ bt362.1 then (if bt362.1 < (y358.length : Int) then (some ((y358.set (bt362.1 : Int).toNat (⟨bt365.1,(rd_T34 y358 bt362.1).f1,(rd_T34 y358 bt362.1).f2,(rd_T34 y358 bt362.1).f3⟩ : S34)),bt365.2.1,bt365.2.2)) else (none)) else (none))) else (if bt343.1 = 1 then ((spec_l01PickInt.f s0_0 bt362.2.1 bt362.2.2 (([(-1),5,99,100] : List Int))).bind fun bt372 => (if 0 ≤ bt362.1 then (if bt362.1 < (y358.length : Int) then (some ((y358.set (bt362.1 : Int).toNat (⟨(rd_T34 y358 bt362.1).f0,bt372.1,(rd_T34 y358 bt362.1).f2,(rd_T34 y358 bt362.1).f3⟩ : S34)),bt372.2.1,bt372.2.2)) else (none)) else (none))) else (if bt343.1 = 2 then ((spec_l01PickInt.f s0_0 bt362.2.1 bt362.2.2 (([(-1),0,bt362.1] : List Int))).bind fun bt379 => (if 0 ≤ bt362.1 then (if bt362.1 < (y358.length : Int) then (some ((y358.set (bt362.1 : Int).toNat (⟨(rd_T34 y358 bt362.1).f0,(rd_T34 y358 bt362.1).f1,(rd_T34 y358 bt362.1).f2,(([bt379.1] : List Int))⟩ : S34)),bt379.2.1,bt379.2.2)) else (none)) else (none))) else (if bt343.1 = 3 then ((spec_l01Pick.f s0_0 bt362.2.1 bt362.2.2 (([(⟨#[]⟩ : ByteArray),(⟨#[97]⟩ : ByteArray),(⟨#[65]⟩ : ByteArray)] : List ByteArray))).bind fun bt389 => (if 0 ≤ bt362.1 then (if bt362.1 < (y358.length : Int) then (some ((y358.set (bt362.1 : Int).toNat (⟨(rd_T34 y358 bt362.1).f0,(rd_T34 y358 bt362.1).f1,bt389.1,(rd_T34 y358 bt362.1).f3⟩ : S34)),bt389.2.1,bt389.2.2)) else (none)) else (none))) else (if bt343.1 = 4 then (some ((([] : List (S34))),bt362.2.1,bt362.2.2)) else (some (y358,bt362.2.1,bt362.2.2))))))))) else (none))))
def spec_l04Any.T7 : Bool × List (List Nat × List Nat):=(true,[([],[]),([0],[0]),([],[]),([],[]),([3],[3]),([1,2,0,1,2,3,4],[1,2]),([5,0,1,2,3,4],[5]),([6,4,4,0,1,2,3,4],[4,6])])
def spec_l04Any.B7 : List Nat:=[0,1,0,0,8,31,63,127]
theorem spec_l04Any.tab7 : rtab .any (opsOf Try.f47 7) = spec_l04Any.T7:=by kernel_rfl
theorem spec_l04Any.bits7 : waitsOk spec_l04Any.T7.2 spec_l04Any.B7 = true:=by kernel_rfl
def spec_l04Any.T9 : Bool × List (List Nat × List Nat):=(true,[([],[]),([0],[0]),([],[]),([],[]),([],[]),([3,4],[3,4]),([1,2,0,1,2,3,4,5],[1,2]),([6,0,1,2,3,4,5],[6]),([7,5,5,0,1,2,3,4,5],[5,7])])
def spec_l04Any.B9 : List Nat:=[0,1,0,0,0,24,63,127,255]
theorem spec_l04Any.tab9 : rtab .any (opsOf Try.f47 9) = spec_l04Any.T9:=by kernel_rfl
theorem spec_l04Any.bits9 : waitsOk spec_l04Any.T9.2 spec_l04Any.B9 = true:=by kernel_rfl
def spec_l04Any.T11 : Bool × List (List Nat × List Nat):=(true,[([],[]),([0],[0]),([],[]),([],[]),([],[]),([4],[4]),([3,5],[3,5]),([6],[6]),([1,2,0,1,2,3,4,5,6,7],[1,2]),([8,0,1,2,3,4,5,6,7],[8]),([9,7,6,0,1,2,3,4,5,6,7],[7,9])])
def spec_l04Any.B11 : List Nat:=[0,1,0,0,0,16,56,120,255,511,1023]
theorem spec_l04Any.tab11 : rtab .any (opsOf Try.f47 11) = spec_l04Any.T11:=by kernel_rfl
theorem spec_l04Any.bits11 : waitsOk spec_l04Any.T11.2 spec_l04Any.B11 = true:=by kernel_rfl
def spec_l04Any.T13 : Bool × List (List Nat × List Nat):=(true,[([],[]),([0],[0]),([],[]),([],[]),([],[]),([3,4],[3,4]),([1,2,0,1,2,3,4,5],[1,2]),([6,0,1,2,3,4,5],[6]),([7,5,5,0,1,2,3,4,5],[5,7])])
def spec_l04Any.B13 : List Nat:=[0,1,0,0,0,24,63,127,255]
theorem spec_l04Any.tab13 : rtab .any (opsOf Try.f47 13) = spec_l04Any.T13:=by kernel_rfl
theorem spec_l04Any.bits13 : waitsOk spec_l04Any.T13.2 spec_l04Any.B13 = true:=by kernel_rfl
set_option maxHeartbeats 8000000 in
set_option maxRecDepth 100000 in
theorem spec_l04Any.calls (g : Nat) (s0_0 : List Int) (s0_1 : Int) (s0_2 : Int) (r1 : List (S34)) (r2 : Int) (r3 : Int) (w0 w : World) (hI : IsS109 w0 w g s0_0 s0_1 s0_2) (hB : Below w0.heap.size w0 w) (h : spec_l04Any.f s0_0 s0_1 s0_2 = some (r1,r2,r3)) :
  Calls Try.prog 47 #[.pointer (some ⟨g,0,none⟩)] w fun e w' => ∃ v0_ : Value,e = .returned (.agg #[v0_]) ∧ Kd.N k34 34 w' w.heap.size (fun k_ => (w.heap.size ≤ k_)) v0_ r1 ∧ IsS109 w0 w' g s0_0 r2 r3 ∧ Below w0.heap.size w0 w' ∧ KeepBut w w' g none:=by
 have hu28:=Try.underlying28
 have HI0:=zm_ hI
 have HK:=zm_ (KeepBut.refl w g none)
 have HL:=zm_ hB.size
 clear hI
 have HW0:=zm_ hB.size
 have HB:=zm_ hB
 clear hB
 have H : ((spec_l01Below.f s0_0 s0_1 s0_2 16).bind fun bt343 => ((spec_l04Expr.f s0_0 bt343.2.1 bt343.2.2 (([(⟨#[97]⟩ : ByteArray),(⟨#[98]⟩ : ByteArray),(⟨#[110]⟩ : ByteArray)] : List ByteArray)) 2).bind fun bt349 => ((some (([] : List (S34)) : List (S34))).bind fun y355 => (if y355.length + bt349.1.length < 2513169434916 then ((some (y355 ++ bt349.1 : List (S34))).bind fun y358 => ((spec_l01Below.f s0_0 bt349.2.1 bt349.2.2 (y358.length : Int)).bind fun bt362 => (if bt343.1 = 0 then ((spec_l01Below.f s0_0 bt362.2.1 bt362.2.2 13).bind fun bt365 => (if 0 ≤ bt362.1 then (if bt362.1 < (y358.length : Int) then (some ((y358.set (bt362.1 : Int).toNat (⟨bt365.1,(rd_T34 y358 bt362.1).f1,(rd_T34 y358 bt362.1).f2,(rd_T34 y358 bt362.1).f3⟩ : S34)),bt365.2.1,bt365.2.2)) else (none)) else (none))) else (if bt343.1 = 1 then ((spec_l01PickInt.f s0_0 bt362.2.1 bt362.2.2 (([(-1),5,99,100] : List Int))).bind fun bt372 => (if 0 ≤ bt362.1 then (if bt362.1 < (y358.length : Int) then (some ((y358.set (bt362.1 : Int).toNat (⟨(rd_T34 y358 bt362.1).f0,bt372.1,(rd_T34 y358 bt362.1).f2,(rd_T34 y358 bt362.1).f3⟩ : S34)),bt372.2.1,bt372.2.2)) else (none)) else (none))) else (if bt343.1 = 2 then ((spec_l01PickInt.f s0_0 bt362.2.1 bt362.2.2 (([(-1),0,bt362.1] : List Int))).bind fun bt379 => (if 0 ≤ bt362.1 then (if bt362.1 < (y358.length : Int) then (some ((y358.set (bt362.1 : Int).toNat (⟨(rd_T34 y358 bt362.1).f0,(rd_T34 y358 bt362.1).f1,(rd_T34 y358 bt362.1).f2,(([bt379.1] : List Int))⟩ : S34)),bt379.2.1,bt379.2.2)) else (none)) else (none))) else (if bt343.1 = 3 then ((spec_l01Pick.f s0_0 bt362.2.1 bt362.2.2 (([(⟨#[]⟩ : ByteArray),(⟨#[97]⟩ : ByteArray),(⟨#[65]⟩ : ByteArray)] : List ByteArray))).bind fun bt389 => (if 0 ≤ bt362.1 then (if bt362.1 < (y358.length : Int) then (some ((y358.set (bt362.1 : Int).toNat (⟨(rd_T34 y358 bt362.1).f0,(rd_T34 y358 bt362.1).f1,bt389.1,(rd_T34 y358 bt362.1).f3⟩ : S34)),bt389.2.1,bt389.2.2)) else (none)) else (none))) else (if bt343.1 = 4 then (some ((([] : List (S34))),bt362.2.1,bt362.2.2)) else (some (y358,bt362.2.1,bt362.2.2))))))))) else (none))))) = some (r1,r2,r3):=h
 clear h
 replace H:=Option.bind_eq_some_iff.mp H
 obtain ⟨⟨t343,t344,t345⟩,A20,H⟩:=H
 replace H : ((spec_l04Expr.f s0_0 t344 t345 (([(⟨#[97]⟩ : ByteArray),(⟨#[98]⟩ : ByteArray),(⟨#[110]⟩ : ByteArray)] : List ByteArray)) 2).bind fun bt349 => ((some (([] : List (S34)) : List (S34))).bind fun y355 => (if y355.length + bt349.1.length < 2513169434916 then ((some (y355 ++ bt349.1 : List (S34))).bind fun y358 => ((spec_l01Below.f s0_0 bt349.2.1 bt349.2.2 (y358.length : Int)).bind fun bt362 => (if t343 = 0 then ((spec_l01Below.f s0_0 bt362.2.1 bt362.2.2 13).bind fun bt365 => (if 0 ≤ bt362.1 then (if bt362.1 < (y358.length : Int) then (some ((y358.set (bt362.1 : Int).toNat (⟨bt365.1,(rd_T34 y358 bt362.1).f1,(rd_T34 y358 bt362.1).f2,(rd_T34 y358 bt362.1).f3⟩ : S34)),bt365.2.1,bt365.2.2)) else (none)) else (none))) else (if t343 = 1 then ((spec_l01PickInt.f s0_0 bt362.2.1 bt362.2.2 (([(-1),5,99,100] : List Int))).bind fun bt372 => (if 0 ≤ bt362.1 then (if bt362.1 < (y358.length : Int) then (some ((y358.set (bt362.1 : Int).toNat (⟨(rd_T34 y358 bt362.1).f0,bt372.1,(rd_T34 y358 bt362.1).f2,(rd_T34 y358 bt362.1).f3⟩ : S34)),bt372.2.1,bt372.2.2)) else (none)) else (none))) else (if t343 = 2 then ((spec_l01PickInt.f s0_0 bt362.2.1 bt362.2.2 (([(-1),0,bt362.1] : List Int))).bind fun bt379 => (if 0 ≤ bt362.1 then (if bt362.1 < (y358.length : Int) then (some ((y358.set (bt362.1 : Int).toNat (⟨(rd_T34 y358 bt362.1).f0,(rd_T34 y358 bt362.1).f1,(rd_T34 y358 bt362.1).f2,(([bt379.1] : List Int))⟩ : S34)),bt379.2.1,bt379.2.2)) else (none)) else (none))) else (if t343 = 3 then ((spec_l01Pick.f s0_0 bt362.2.1 bt362.2.2 (([(⟨#[]⟩ : ByteArray),(⟨#[97]⟩ : ByteArray),(⟨#[65]⟩ : ByteArray)] : List ByteArray))).bind fun bt389 => (if 0 ≤ bt362.1 then (if bt362.1 < (y358.length : Int) then (some ((y358.set (bt362.1 : Int).toNat (⟨(rd_T34 y358 bt362.1).f0,(rd_T34 y358 bt362.1).f1,bt389.1,(rd_T34 y358 bt362.1).f3⟩ : S34)),bt389.2.1,bt389.2.2)) else (none)) else (none))) else (if t343 = 4 then (some ((([] : List (S34))),bt362.2.1,bt362.2.2)) else (some (y358,bt362.2.1,bt362.2.2))))))))) else (none)))) = some (r1,r2,r3):=H
 have A2:=zm_ A20
 clear A20
 obtain ⟨y346,hy346⟩ : ∃ y_ : List ByteArray,y_ = (([(⟨#[97]⟩ : ByteArray),(⟨#[98]⟩ : ByteArray),(⟨#[110]⟩ : ByteArray)] : List ByteArray)):=⟨_,rfl⟩
 replace H : ((spec_l04Expr.f s0_0 t344 t345 y346 2).bind fun bt349 => ((some (([] : List (S34)) : List (S34))).bind fun y355 => (if y355.length + bt349.1.length < 2513169434916 then ((some (y355 ++ bt349.1 : List (S34))).bind fun y358 => ((spec_l01Below.f s0_0 bt349.2.1 bt349.2.2 (y358.length : Int)).bind fun bt362 => (if t343 = 0 then ((spec_l01Below.f s0_0 bt362.2.1 bt362.2.2 13).bind fun bt365 => (if 0 ≤ bt362.1 then (if bt362.1 < (y358.length : Int) then (some ((y358.set (bt362.1 : Int).toNat (⟨bt365.1,(rd_T34 y358 bt362.1).f1,(rd_T34 y358 bt362.1).f2,(rd_T34 y358 bt362.1).f3⟩ : S34)),bt365.2.1,bt365.2.2)) else (none)) else (none))) else (if t343 = 1 then ((spec_l01PickInt.f s0_0 bt362.2.1 bt362.2.2 (([(-1),5,99,100] : List Int))).bind fun bt372 => (if 0 ≤ bt362.1 then (if bt362.1 < (y358.length : Int) then (some ((y358.set (bt362.1 : Int).toNat (⟨(rd_T34 y358 bt362.1).f0,bt372.1,(rd_T34 y358 bt362.1).f2,(rd_T34 y358 bt362.1).f3⟩ : S34)),bt372.2.1,bt372.2.2)) else (none)) else (none))) else (if t343 = 2 then ((spec_l01PickInt.f s0_0 bt362.2.1 bt362.2.2 (([(-1),0,bt362.1] : List Int))).bind fun bt379 => (if 0 ≤ bt362.1 then (if bt362.1 < (y358.length : Int) then (some ((y358.set (bt362.1 : Int).toNat (⟨(rd_T34 y358 bt362.1).f0,(rd_T34 y358 bt362.1).f1,(rd_T34 y358 bt362.1).f2,(([bt379.1] : List Int))⟩ : S34)),bt379.2.1,bt379.2.2)) else (none)) else (none))) else (if t343 = 3 then ((spec_l01Pick.f s0_0 bt362.2.1 bt362.2.2 (([(⟨#[]⟩ : ByteArray),(⟨#[97]⟩ : ByteArray),(⟨#[65]⟩ : ByteArray)] : List ByteArray))).bind fun bt389 => (if 0 ≤ bt362.1 then (if bt362.1 < (y358.length : Int) then (some ((y358.set (bt362.1 : Int).toNat (⟨(rd_T34 y358 bt362.1).f0,(rd_T34 y358 bt362.1).f1,bt389.1,(rd_T34 y358 bt362.1).f3⟩ : S34)),bt389.2.1,bt389.2.2)) else (none)) else (none))) else (if t343 = 4 then (some ((([] : List (S34))),bt362.2.1,bt362.2.2)) else (some (y358,bt362.2.1,bt362.2.2))))))))) else (none)))) = some (r1,r2,r3):=by first|(rw [hy346];with_reducible exact H)|(have H2_:=(Option.bind_some _ _).symm.trans H;rw [hy346];with_reducible exact H2_)|(have H2_:=(Option.bind_some _ _).symm.trans H;with_reducible exact H2_)|with_reducible exact H|(rw [hy346];exact H)|exact H
 have Ny346:=zm_ hy346
 clear hy346
 replace H:=Option.bind_eq_some_iff.mp H
 obtain ⟨⟨t349,t352,t353⟩,A30,H⟩:=H
 replace H : ((some (([] : List (S34)) : List (S34))).bind fun y355 => (if y355.length + t349.length < 2513169434916 then ((some (y355 ++ t349 : List (S34))).bind fun y358 => ((spec_l01Below.f s0_0 t352 t353 (y358.length : Int)).bind fun bt362 => (if t343 = 0 then ((spec_l01Below.f s0_0 bt362.2.1 bt362.2.2 13).bind fun bt365 => (if 0 ≤ bt362.1 then (if bt362.1 < (y358.length : Int) then (some ((y358.set (bt362.1 : Int).toNat (⟨bt365.1,(rd_T34 y358 bt362.1).f1,(rd_T34 y358 bt362.1).f2,(rd_T34 y358 bt362.1).f3⟩ : S34)),bt365.2.1,bt365.2.2)) else (none)) else (none))) else (if t343 = 1 then ((spec_l01PickInt.f s0_0 bt362.2.1 bt362.2.2 (([(-1),5,99,100] : List Int))).bind fun bt372 => (if 0 ≤ bt362.1 then (if bt362.1 < (y358.length : Int) then (some ((y358.set (bt362.1 : Int).toNat (⟨(rd_T34 y358 bt362.1).f0,bt372.1,(rd_T34 y358 bt362.1).f2,(rd_T34 y358 bt362.1).f3⟩ : S34)),bt372.2.1,bt372.2.2)) else (none)) else (none))) else (if t343 = 2 then ((spec_l01PickInt.f s0_0 bt362.2.1 bt362.2.2 (([(-1),0,bt362.1] : List Int))).bind fun bt379 => (if 0 ≤ bt362.1 then (if bt362.1 < (y358.length : Int) then (some ((y358.set (bt362.1 : Int).toNat (⟨(rd_T34 y358 bt362.1).f0,(rd_T34 y358 bt362.1).f1,(rd_T34 y358 bt362.1).f2,(([bt379.1] : List Int))⟩ : S34)),bt379.2.1,bt379.2.2)) else (none)) else (none))) else (if t343 = 3 then ((spec_l01Pick.f s0_0 bt362.2.1 bt362.2.2 (([(⟨#[]⟩ : ByteArray),(⟨#[97]⟩ : ByteArray),(⟨#[65]⟩ : ByteArray)] : List ByteArray))).bind fun bt389 => (if 0 ≤ bt362.1 then (if bt362.1 < (y358.length : Int) then (some ((y358.set (bt362.1 : Int).toNat (⟨(rd_T34 y358 bt362.1).f0,(rd_T34 y358 bt362.1).f1,bt389.1,(rd_T34 y358 bt362.1).f3⟩ : S34)),bt389.2.1,bt389.2.2)) else (none)) else (none))) else (if t343 = 4 then (some ((([] : List (S34))),bt362.2.1,bt362.2.2)) else (some (y358,bt362.2.1,bt362.2.2))))))))) else (none))) = some (r1,r2,r3):=H
 have A3:=zm_ A30
 clear A30
 obtain ⟨y355,hy355⟩ : ∃ y_ : List (S34),y_ = (([] : List (S34))):=⟨_,rfl⟩
 replace H : (if y355.length + t349.length < 2513169434916 then ((some (y355 ++ t349 : List (S34))).bind fun y358 => ((spec_l01Below.f s0_0 t352 t353 (y358.length : Int)).bind fun bt362 => (if t343 = 0 then ((spec_l01Below.f s0_0 bt362.2.1 bt362.2.2 13).bind fun bt365 => (if 0 ≤ bt362.1 then (if bt362.1 < (y358.length : Int) then (some ((y358.set (bt362.1 : Int).toNat (⟨bt365.1,(rd_T34 y358 bt362.1).f1,(rd_T34 y358 bt362.1).f2,(rd_T34 y358 bt362.1).f3⟩ : S34)),bt365.2.1,bt365.2.2)) else (none)) else (none))) else (if t343 = 1 then ((spec_l01PickInt.f s0_0 bt362.2.1 bt362.2.2 (([(-1),5,99,100] : List Int))).bind fun bt372 => (if 0 ≤ bt362.1 then (if bt362.1 < (y358.length : Int) then (some ((y358.set (bt362.1 : Int).toNat (⟨(rd_T34 y358 bt362.1).f0,bt372.1,(rd_T34 y358 bt362.1).f2,(rd_T34 y358 bt362.1).f3⟩ : S34)),bt372.2.1,bt372.2.2)) else (none)) else (none))) else (if t343 = 2 then ((spec_l01PickInt.f s0_0 bt362.2.1 bt362.2.2 (([(-1),0,bt362.1] : List Int))).bind fun bt379 => (if 0 ≤ bt362.1 then (if bt362.1 < (y358.length : Int) then (some ((y358.set (bt362.1 : Int).toNat (⟨(rd_T34 y358 bt362.1).f0,(rd_T34 y358 bt362.1).f1,(rd_T34 y358 bt362.1).f2,(([bt379.1] : List Int))⟩ : S34)),bt379.2.1,bt379.2.2)) else (none)) else (none))) else (if t343 = 3 then ((spec_l01Pick.f s0_0 bt362.2.1 bt362.2.2 (([(⟨#[]⟩ : ByteArray),(⟨#[97]⟩ : ByteArray),(⟨#[65]⟩ : ByteArray)] : List ByteArray))).bind fun bt389 => (if 0 ≤ bt362.1 then (if bt362.1 < (y358.length : Int) then (some ((y358.set (bt362.1 : Int).toNat (⟨(rd_T34 y358 bt362.1).f0,(rd_T34 y358 bt362.1).f1,bt389.1,(rd_T34 y358 bt362.1).f3⟩ : S34)),bt389.2.1,bt389.2.2)) else (none)) else (none))) else (if t343 = 4 then (some ((([] : List (S34))),bt362.2.1,bt362.2.2)) else (some (y358,bt362.2.1,bt362.2.2))))))))) else (none)) = some (r1,r2,r3):=by first|(rw [hy355];with_reducible exact H)|(have H2_:=(Option.bind_some _ _).symm.trans H;rw [hy355];with_reducible exact H2_)|(have H2_:=(Option.bind_some _ _).symm.trans H;with_reducible exact H2_)|with_reducible exact H|(rw [hy355];exact H)|exact H
 have Ny355:=zm_ hy355
 clear hy355
 by_cases c4 : y355.length + t349.length < 2513169434916
 ·rw [if_pos c4] at H
  have LMc4:=zm_ c4
  clear c4
  obtain ⟨y358,hy358⟩ : ∃ y_ : List (S34),y_ = (y355 ++ t349):=⟨_,rfl⟩
  replace H : ((spec_l01Below.f s0_0 t352 t353 (y358.length : Int)).bind fun bt362 => (if t343 = 0 then ((spec_l01Below.f s0_0 bt362.2.1 bt362.2.2 13).bind fun bt365 => (if 0 ≤ bt362.1 then (if bt362.1 < (y358.length : Int) then (some ((y358.set (bt362.1 : Int).toNat (⟨bt365.1,(rd_T34 y358 bt362.1).f1,(rd_T34 y358 bt362.1).f2,(rd_T34 y358 bt362.1).f3⟩ : S34)),bt365.2.1,bt365.2.2)) else (none)) else (none))) else (if t343 = 1 then ((spec_l01PickInt.f s0_0 bt362.2.1 bt362.2.2 (([(-1),5,99,100] : List Int))).bind fun bt372 => (if 0 ≤ bt362.1 then (if bt362.1 < (y358.length : Int) then (some ((y358.set (bt362.1 : Int).toNat (⟨(rd_T34 y358 bt362.1).f0,bt372.1,(rd_T34 y358 bt362.1).f2,(rd_T34 y358 bt362.1).f3⟩ : S34)),bt372.2.1,bt372.2.2)) else (none)) else (none))) else (if t343 = 2 then ((spec_l01PickInt.f s0_0 bt362.2.1 bt362.2.2 (([(-1),0,bt362.1] : List Int))).bind fun bt379 => (if 0 ≤ bt362.1 then (if bt362.1 < (y358.length : Int) then (some ((y358.set (bt362.1 : Int).toNat (⟨(rd_T34 y358 bt362.1).f0,(rd_T34 y358 bt362.1).f1,(rd_T34 y358 bt362.1).f2,(([bt379.1] : List Int))⟩ : S34)),bt379.2.1,bt379.2.2)) else (none)) else (none))) else (if t343 = 3 then ((spec_l01Pick.f s0_0 bt362.2.1 bt362.2.2 (([(⟨#[]⟩ : ByteArray),(⟨#[97]⟩ : ByteArray),(⟨#[65]⟩ : ByteArray)] : List ByteArray))).bind fun bt389 => (if 0 ≤ bt362.1 then (if bt362.1 < (y358.length : Int) then (some ((y358.set (bt362.1 : Int).toNat (⟨(rd_T34 y358 bt362.1).f0,(rd_T34 y358 bt362.1).f1,bt389.1,(rd_T34 y358 bt362.1).f3⟩ : S34)),bt389.2.1,bt389.2.2)) else (none)) else (none))) else (if t343 = 4 then (some ((([] : List (S34))),bt362.2.1,bt362.2.2)) else (some (y358,bt362.2.1,bt362.2.2)))))))) = some (r1,r2,r3):=by first|(rw [hy358];with_reducible exact H)|(have H2_:=(Option.bind_some _ _).symm.trans H;rw [hy358];with_reducible exact H2_)|(have H2_:=(Option.bind_some _ _).symm.trans H;with_reducible exact H2_)|with_reducible exact H|(rw [hy358];exact H)|exact H
  have Ny358:=zm_ hy358
  clear hy358
  replace H:=Option.bind_eq_some_iff.mp H
  obtain ⟨⟨t362,t363,t364⟩,A50,H⟩:=H
  replace H : (if t343 = 0 then ((spec_l01Below.f s0_0 t363 t364 13).bind fun bt365 => (if 0 ≤ t362 then (if t362 < (y358.length : Int) then (some ((y358.set (t362 : Int).toNat (⟨bt365.1,(rd_T34 y358 t362).f1,(rd_T34 y358 t362).f2,(rd_T34 y358 t362).f3⟩ : S34)),bt365.2.1,bt365.2.2)) else (none)) else (none))) else (if t343 = 1 then ((spec_l01PickInt.f s0_0 t363 t364 (([(-1),5,99,100] : List Int))).bind fun bt372 => (if 0 ≤ t362 then (if t362 < (y358.length : Int) then (some ((y358.set (t362 : Int).toNat (⟨(rd_T34 y358 t362).f0,bt372.1,(rd_T34 y358 t362).f2,(rd_T34 y358 t362).f3⟩ : S34)),bt372.2.1,bt372.2.2)) else (none)) else (none))) else (if t343 = 2 then ((spec_l01PickInt.f s0_0 t363 t364 (([(-1),0,t362] : List Int))).bind fun bt379 => (if 0 ≤ t362 then (if t362 < (y358.length : Int) then (some ((y358.set (t362 : Int).toNat (⟨(rd_T34 y358 t362).f0,(rd_T34 y358 t362).f1,(rd_T34 y358 t362).f2,(([bt379.1] : List Int))⟩ : S34)),bt379.2.1,bt379.2.2)) else (none)) else (none))) else (if t343 = 3 then ((spec_l01Pick.f s0_0 t363 t364 (([(⟨#[]⟩ : ByteArray),(⟨#[97]⟩ : ByteArray),(⟨#[65]⟩ : ByteArray)] : List ByteArray))).bind fun bt389 => (if 0 ≤ t362 then (if t362 < (y358.length : Int) then (some ((y358.set (t362 : Int).toNat (⟨(rd_T34 y358 t362).f0,(rd_T34 y358 t362).f1,bt389.1,(rd_T34 y358 t362).f3⟩ : S34)),bt389.2.1,bt389.2.2)) else (none)) else (none))) else (if t343 = 4 then (some ((([] : List (S34))),t363,t364)) else (some (y358,t363,t364))))))) = some (r1,r2,r3):=H
  have A5:=zm_ A50
  clear A50
  by_cases c6 : t343 = 0
  ·rw [if_pos c6] at H
   have c6b0 : (t343 == 0) = true:=beq_iff_eq.mpr c6
   have c6b1 : (t343 != 0) = false:=bne_eq_false_iff_eq.mpr c6
   clear c6
   replace H:=Option.bind_eq_some_iff.mp H
   obtain ⟨⟨t365,t366,t367⟩,A70,H⟩:=H
   replace H : (if 0 ≤ t362 then (if t362 < (y358.length : Int) then (some ((y358.set (t362 : Int).toNat (⟨t365,(rd_T34 y358 t362).f1,(rd_T34 y358 t362).f2,(rd_T34 y358 t362).f3⟩ : S34)),t366,t367)) else (none)) else (none)) = some (r1,r2,r3):=H
   have A7:=zm_ A70
   clear A70
   by_cases c8 : 0 ≤ t362
   ·rw [if_pos c8] at H
    have c8b0 : decide (0 ≤ t362) = true:=decide_eq_true c8
    clear c8
    by_cases c9 : t362 < (y358.length : Int)
    ·rw [if_pos c9] at H
     have c9b0 : decide (t362 < (y358.length : Int)) = true:=decide_eq_true c9
     clear c9
     obtain ⟨y368,hy368⟩ : ∃ y_ : List (S34),y_ = (y358.set (t362 : Int).toNat (⟨t365,(rd_T34 y358 t362).f1,(rd_T34 y358 t362).f2,(rd_T34 y358 t362).f3⟩ : S34)):=⟨_,rfl⟩
     replace H : (some (y368,t366,t367)) = some (r1,r2,r3):=by first|(rw [hy368];with_reducible exact H)|(have H2_:=(Option.bind_some _ _).symm.trans H;rw [hy368];with_reducible exact H2_)|(have H2_:=(Option.bind_some _ _).symm.trans H;with_reducible exact H2_)|with_reducible exact H|(rw [hy368];exact H)|exact H
     have Ny368:=zm_ hy368
     clear hy368
     simp only [Option.some.injEq,Prod.mk.injEq] at H
     obtain ⟨rfl,rfl,rfl⟩:=H
     go_enter Try.func47,Try.ntmps47
     try go_wp2_with (first|((with_reducible refine gate_dst (N:=2) rfl ?_);refine box_event ?hg (N:=2) ?hd (cs:=#[.slice none 0 0]) (t:=28) ?hr ?_;(case hd => rfl);(case hg => rfl);(case hr => first|(go_simp;done)|(go_simp;rfl));intro gb342 hg w11 hbox hb;have n0_:=zm_ (IsS109.below zt11_11 hb);have n1_:=zm_ (KeepBut.trans zt11_13 (KeepBut.of_below hb g none) (.inl rfl));have n2_:=zm_ (below_step zt11_29 hb);have n3_:=zm_ (hbox);have n4_:=zm_ ((zt11_30 : w.heap.size ≤ gb342));have n5_:=zm_ ((Nat.le_trans HW0.out (zt11_30 : w.heap.size ≤ gb342) : w0.heap.size ≤ gb342));have n6_:=zm_ ((zt11_34 : g ≠ gb342));have n7_:=zm_ ((zt11_35 : gb342 ≠ g));clear HI0;clear HK;clear HB;have HI0:=n0_;have HK:=n1_;have HB:=n2_;have BK342:=n3_;have GW342:=n4_;have GE342:=n5_;have NB0_342:=n6_;have NB342_0:=n7_;clear n0_ n1_ n2_ n3_ n4_ n5_ n6_ n7_;clear hb hbox hg)|((with_reducible refine gate_callee (f:=43) rfl ?_);refine goesL_ (some 8) rfl rfl Try.func43 (by kernel_rfl) rfl #[.pointer (some ⟨g,0,none⟩),.int .i64 16] rfl zq_ ?_;(with_reducible refine (spec_l01Below.calls g s0_0 s0_1 s0_2 16 t343 t344 t345 w0 _ ?side1 ?side2 A2.out).mono ?_);(case side1 => repeat (first|(with_reducible first|exact HI0.out|apply IsS109.alloc|apply IsS109.drewN|apply IsS109.drew|apply IsS109.set_1|apply IsS109.set_2|refine IsS109.far ?_ NB0_342.out _)|exact HI0.out));(case side2 => repeat (first|(with_reducible first|exact HB.out|apply za_|apply zn_|apply zd_|refine zs_ ?_ (IsS109.ge HI0.out)|refine zs_ ?_ GE342.out)|exact HB.out));rintro e w12 ⟨rfl,hi,hb,hk⟩;refine ⟨_,rfl,?_⟩;have n0_:=zm_ (KeepBut.blk hk (g':=gb342) (o:=.cells #[.slice none 0 0] 28 (0,0)) zt11_4 NB342_0.out (by simp));have n1_:=zm_ (KeepBut.trans zt11_2 hk (.inl rfl));have n2_:=zm_ (hb);have n3_:=zm_ (hi);clear BK342;clear HK;clear HB;clear HI0;have BK342:=n0_;have HK:=n1_;have HB:=n2_;have HI0:=n3_;clear n0_ n1_ n2_ n3_;(try clear hb);(try clear hb2);(try clear hk);(try clear hi))|((with_reducible refine gate_dst (N:=10) rfl ?_);refine Kd.R_lit Kd.string _ 9 ?hg (N:=10) ?hd (xs:=([(⟨#[97]⟩ : ByteArray),(⟨#[98]⟩ : ByteArray),(⟨#[110]⟩ : ByteArray)] : List ByteArray)) (inner:=[.string (⟨#[97]⟩ : ByteArray),.string (⟨#[98]⟩ : ByteArray),.string (⟨#[110]⟩ : ByteArray)]) (ok:=fun _ => True) (okp:=fun _ => True) ?hr ?hp (fun _ hk => hk) trivial (Below.refl _ _) (Nat.le_refl _) (by simp) ?_;(case hd => rfl);(case hg => rfl);(case hr => first|(go_simp;done)|(go_simp;rfl));(case hp => exact (Reps.one (show Kd.M Kd.string _ _ _ (⟨#[97]⟩ : ByteArray) [.string (⟨#[97]⟩ : ByteArray)] from rfl) (Reps.one (show Kd.M Kd.string _ _ _ (⟨#[98]⟩ : ByteArray) [.string (⟨#[98]⟩ : ByteArray)] from rfl) (Reps.one (show Kd.M Kd.string _ _ _ (⟨#[110]⟩ : ByteArray) [.string (⟨#[110]⟩ : ByteArray)] from rfl) (Reps.none _ _)))));intro v347 w13 ho14 hb hg_ hnew_;clear hg_ hnew_;(first|rw [← Ny346.out] at ho14|(simp only [Int.reduceToNat] at ho14;rw [← Ny346.out] at ho14));have n0_:=zm_ (Kd.R_lower (Kd.R_newM (M:=fun k_ => (w.heap.size ≤ k_)) ho14 (keep_size (w:=w) (g:=g) (row:=none) zt11_2) (fun k_ h_ => h_)) (keep_size (w:=w) (g:=g) (row:=none) zt11_2));have n1_:=zm_ (IsS109.below zt11_5 hb);have n2_:=zm_ (blk_below (g:=gb342) (o:=.cells #[.slice none 0 0] 28 (0,0)) zt11_4 hb);have n3_:=zm_ (KeepBut.trans zt11_2 (KeepBut.of_below hb g none) (.inl rfl));have n4_:=zm_ (below_step zt11_16 hb);clear HI0;clear BK342;clear HK;clear HB;have HO348:=n0_;have HI0:=n1_;have BK342:=n2_;have HK:=n3_;have HB:=n4_;clear n0_ n1_ n2_ n3_ n4_;clear hb ho14;obtain ⟨Ao15,co15,eo15⟩:=Kd.R_slice HO348.out;subst eo15)|((with_reducible refine gate_callee (f:=53) rfl ?_);refine goesL_ (some 11) rfl rfl Try.func53 (by kernel_rfl) rfl #[.pointer (some ⟨g,0,none⟩),.slice Ao15 y346.length co15,.int .i64 2] rfl zq_ ?_;(with_reducible refine (spec_l04Expr.calls g s0_0 t344 t345 _ _ y346 2 t349 t352 t353 w0 _ ?side1 ?side2 ?side3 ?side4 ?side5 A3.out).mono ?_);(case side1 => repeat (first|(with_reducible first|exact HI0.out|apply IsS109.alloc|apply IsS109.drewN|apply IsS109.drew|apply IsS109.set_1|apply IsS109.set_2|refine IsS109.far ?_ NB0_342.out _)|exact HI0.out));(case side2 => repeat (first|(with_reducible first|exact HB.out|apply za_|apply zn_|apply zd_|refine zs_ ?_ (IsS109.ge HI0.out)|refine zs_ ?_ GE342.out)|exact HB.out));(case side3 => repeat (first|exact (Kd.R_reads' HO348.out).2.2|(with_reducible refine Kd.C_alloc ?_ _)|(with_reducible refine Kd.C_drewN ?_ _)|(with_reducible refine Kd.C_drew ?_)));(case side4 => exact (Kd.R_reads' HO348.out).2.1);(case side5 => exact far_slice (IsS109.own_ne HI0.out HO348.out (by decide)));rintro e w16 ⟨v350,rfl,ho0,hi,hb,hk⟩;refine ⟨_,rfl,?_⟩;have n0_:=zm_ (KeepBut.blk hk (g':=gb342) (o:=.cells #[.slice none 0 0] 28 (0,0)) zt11_4 NB342_0.out (by simp));have n1_:=zm_ (Kd.R_mono (Kd.R_keep (IsS109.apart (show IsS109 w0 _ g s0_0 t344 t345 from zt11_5) zt11_8 (by decide)) hk (fun _ h => h.2)) (fun _ h => h.1));have n2_:=zm_ (Kd.N_lower (Kd.N_mono (ok':=fun k_ => (w.heap.size ≤ k_) ∧ some k_ ≠ (.slice Ao15 y346.length co15 : Value).ownBlock ∧ k_ ≠ gb342 ∧ k_ ≠ g) (Kd.S_N (Kd.S_bound ho0)) (fun k_ hk_ => ⟨(Nat.le_trans (keep_size (w:=w) (g:=g) (row:=none) zt11_2) hk_.2.1),(Kd.fresh' (Kd.R_lt zt11_8) k_ hk_.2.1),(Kd.freshB (g:=gb342) (o:=.cells #[.slice none 0 0] 28 (0,0)) zt11_4 k_ hk_.2.1),(IsS109.fresh zt11_5 k_ hk_.2.1)⟩)) (keep_size (w:=w) (g:=g) (row:=none) zt11_2));have n3_:=zm_ (KeepBut.trans zt11_2 hk (.inl rfl));have n4_:=zm_ (hb);have n5_:=zm_ (hi);clear BK342;clear HO348;clear HK;clear HB;clear HI0;have BK342:=n0_;have HO348:=n1_;have HO351:=n2_;have HK:=n3_;have HB:=n4_;have HI0:=n5_;clear n0_ n1_ n2_ n3_ n4_ n5_;(try clear hb);(try clear hb2);(try clear hk);(try clear hi);(try clear ho0))|((with_reducible refine gate_dst (N:=4) rfl ?_);refine box_event ?hg (N:=4) ?hd (cs:=#[.slice none 0 0]) (t:=28) ?hr ?_;(case hd => rfl);(case hg => rfl);(case hr => first|(go_simp;done)|(go_simp;rfl));intro gb354 hg w17 hbox hb;have n0_:=zm_ (Kd.R_below zt11_8 hb);have n1_:=zm_ (Kd.N_below (Kd.N_elderB zt11_15 gb354 (Nat.le_of_eq hg.symm)) hb);have n2_:=zm_ (IsS109.below zt11_5 hb);have n3_:=zm_ (blk_below (g:=gb342) (o:=.cells #[.slice none 0 0] 28 (0,0)) zt11_4 hb);have n4_:=zm_ (KeepBut.trans zt11_2 (KeepBut.of_below hb g none) (.inl rfl));have n5_:=zm_ (below_step zt11_16 hb);have n6_:=zm_ (hbox);have n7_:=zm_ ((zt11_31 : w.heap.size ≤ gb354));have n8_:=zm_ ((Nat.le_trans HW0.out (zt11_31 : w.heap.size ≤ gb354) : w0.heap.size ≤ gb354));have n9_:=zm_ ((zt11_19 : gb342 ≠ gb354));have n10_:=zm_ ((zt11_20 : gb354 ≠ gb342));have n11_:=zm_ ((zt11_36 : g ≠ gb354));have n12_:=zm_ ((zt11_37 : gb354 ≠ g));clear HO348;clear HO351;clear HI0;clear BK342;clear HK;clear HB;have HO348:=n0_;have HO351:=n1_;have HI0:=n2_;have BK342:=n3_;have HK:=n4_;have HB:=n5_;have BK354:=n6_;have GW354:=n7_;have GE354:=n8_;have NB342_354:=n9_;have NB354_342:=n10_;have NB0_354:=n11_;have NB354_0:=n12_;clear n0_ n1_ n2_ n3_ n4_ n5_ n6_ n7_ n8_ n9_ n10_ n11_ n12_;clear hb hbox hg;obtain ⟨Ao18,co18,eo18⟩:=Kd.N_slice HO351.out;subst eo18;have hnb19:=NB354_342.out;have hnc19:=NB342_354.out;have hnb20:=NB354_0.out;have hnc20:=NB0_354.out;have hcz21_0 : w17.cell? ⟨gb354,0,none⟩ = some (.slice none 0 0):=(zc_ BK354.out 0).trans rfl;have hfz21_0:=zf_ BK354.out 0)|((with_reducible refine gate_dst (N:=12) rfl ?_);refine Kd.N_lit k34 _ 34 ?hg (N':=12) ?hd (xs:=([] : List (S34))) (inner:=[]) (ok:=(fun k_ => (w.heap.size ≤ k_) ∧ some k_ ≠ (.slice Ao15 y346.length co15 : Value).ownBlock ∧ some k_ ≠ (.slice Ao18 t349.length co18 : Value).ownBlock ∧ k_ ≠ gb342 ∧ k_ ≠ gb354 ∧ k_ ≠ g)) (okp:=(fun k_ => (w.heap.size ≤ k_) ∧ some k_ ≠ (.slice Ao15 y346.length co15 : Value).ownBlock ∧ some k_ ≠ (.slice Ao18 t349.length co18 : Value).ownBlock ∧ k_ ≠ gb342 ∧ k_ ≠ gb354 ∧ k_ ≠ g)) ?hr ?hp (fun _ hk => hk) ((show ∀ k_,(w17.setCell ⟨gb354,0,none⟩ (.slice Ao18 t349.length co18)).heap.size ≤ k_ → (fun k_ => (w.heap.size ≤ k_) ∧ some k_ ≠ (.slice Ao15 y346.length co15 : Value).ownBlock ∧ some k_ ≠ (.slice Ao18 t349.length co18 : Value).ownBlock ∧ k_ ≠ gb342 ∧ k_ ≠ gb354 ∧ k_ ≠ g) k_ from fun k_ hk => ⟨(Nat.le_trans (keep_size (w:=w) (g:=g) (row:=none) zt11_1) hk),Kd.fresh' (Kd.R_lt zt11_49) k_ hk,Kd.fresh' (Kd.N_lt zt11_43) k_ hk,Kd.freshB (g:=gb342) (o:=.cells #[.slice none 0 0] 28 (0,0)) zt11_14 k_ hk,Kd.freshB (g:=gb354) (o:=.cells #[.slice Ao18 t349.length co18] 28 (0,0)) zt11_12 k_ hk,IsS109.fresh zt11_3 k_ hk⟩) _ (Nat.le_refl _)) (Below.refl _ _) (Nat.le_refl _) (by simp) ?_;(case hd => rfl);(case hg => rfl);(case hr => first|(go_simp;done)|(go_simp;rfl));(case hp => exact (Reps.none _ _));intro v356 w22 ho23 hb hg_ hnew_;clear hg_ hnew_;(first|rw [← Ny355.out] at ho23|(simp only [Int.reduceToNat] at ho23;rw [← Ny355.out] at ho23));have n0_:=zm_ (Kd.R_below zt11_49 hb);have n1_:=zm_ (Kd.N_elder' zt11_43 (Kd.N_base ho23) hb);have n2_:=zm_ (Kd.N_lower ho23 (keep_size (w:=w) (g:=g) (row:=none) zt11_1));have n3_:=zm_ (IsS109.below (show IsS109 w0 (w17.setCell ⟨gb354,0,none⟩ (.slice Ao18 t349.length co18)) g s0_0 t352 t353 from zt11_3) hb);have n4_:=zm_ (blk_below (g:=gb342) (o:=.cells #[.slice none 0 0] 28 (0,0)) zt11_14 hb);have n5_:=zm_ (blk_below (g:=gb354) (o:=.cells #[.slice Ao18 t349.length co18] 28 (0,0)) zt11_12 hb);have n6_:=zm_ (KeepBut.trans zt11_1 (KeepBut.of_below hb g none) (.inl rfl));have n7_:=zm_ (below_step zt11_10 hb);clear HO348;clear HO351;clear HI0;clear BK342;clear BK354;clear HK;clear HB;have HO348:=n0_;have HO351:=n1_;have HO357:=n2_;have HI0:=n3_;have BK342:=n4_;have BK354:=n5_;have HK:=n6_;have HB:=n7_;clear n0_ n1_ n2_ n3_ n4_ n5_ n6_ n7_;clear hb ho23;have hcz24_0 : w22.cell? ⟨gb354,0,none⟩ = some (.slice Ao18 t349.length co18):=(zc_ BK354.out 0).trans rfl;have hfz24_0:=zf_ BK354.out 0)|((with_reducible refine gate_builtin (b:=.append) (xs:=#[.tmp 12,.tmp 14]) rfl ?_);at_builtin;refine Kd.N_append_rows k34 w.heap.size rfl (.tmp 12) (.tmp 14) 26 34 (.agg #[(.int .i64 0),(.int .i64 0),(.string ⟨#[]⟩),(.slice none 0 0)]) 56 rfl Try.underlying26 info34 rfl (by decide) (by omega) v356 y355 t349 _ _ _ (fun k_ => (w.heap.size ≤ k_) ∧ some k_ ≠ (.slice Ao15 y346.length co15 : Value).ownBlock ∧ k_ ≠ gb342 ∧ k_ ≠ gb354 ∧ k_ ≠ g) (fun k_ => ((fun k_ => (w.heap.size ≤ k_) ∧ some k_ ≠ (.slice Ao15 y346.length co15 : Value).ownBlock ∧ k_ ≠ gb342 ∧ k_ ≠ gb354 ∧ k_ ≠ g)) k_ ∧ some k_ ≠ (v356 : Value).ownBlock) rfl rfl ?aO ?aR (fun _ hk => hk) ?aF (Below.refl _ _) ?aS ?aL ?_;(case aR => exact (by skip;exact Kd.N_F (Kd.N_mono (ok':=(fun k_ => ((fun k_ => (w.heap.size ≤ k_) ∧ some k_ ≠ (.slice Ao15 y346.length co15 : Value).ownBlock ∧ k_ ≠ gb342 ∧ k_ ≠ gb354 ∧ k_ ≠ g)) k_ ∧ some k_ ≠ (v356 : Value).ownBlock)) (HO351.out) (fun k_ hk => ⟨⟨hk.1.1.1,⟨hk.1.1.2.1,⟨hk.1.1.2.2.1,⟨hk.1.2,hk.1.1.2.2.2⟩⟩⟩⟩,hk.2⟩))));(case aF => exact (fun k_ hk => ⟨(Nat.le_trans (keep_size (w:=w) (g:=g) (row:=none) zt11_1) hk),Kd.fresh' (Kd.R_lt zt11_8) k_ hk,Kd.freshB (g:=gb342) (o:=.cells #[.slice none 0 0] 28 (0,0)) zt11_4 k_ hk,Kd.freshB (g:=gb354) (o:=.cells #[.slice Ao18 t349.length co18] 28 (0,0)) zt11_9 k_ hk,IsS109.fresh zt11_3 k_ hk⟩));(case aO => exact zt11_25);(case aS => exact (keep_size (w:=w) (g:=g) (row:=none) zt11_1));(case aL => have:=LMc4.out;omega);intro v359 w25 ho hb hg hat;rw [← Ny358.out] at ho;have n0_:=zm_ (IsS109.grown zt11_3 hg (IsS109.own_neN HI0.out HO357.out (by decide)));have n1_:=zm_ (blk_grown (g:=gb342) (o:=.cells #[.slice none 0 0] 28 (0,0)) zt11_4 hg (Kd.N_ne HO357.out BK342.out (by decide)));have n2_:=zm_ (Kd.R_over' zt11_8 (Kd.N_typed zt11_33) (by decide) hg);have n3_:=zm_ (Kd.N_afterv (ok:=(fun k_ => (w.heap.size ≤ k_) ∧ some k_ ≠ (.slice Ao15 y346.length co15 : Value).ownBlock ∧ k_ ≠ gb342 ∧ k_ ≠ g ∧ k_ ≠ gb354)) zt11_23 hg hat);have n4_:=zm_ (blk_grown (g:=gb354) (o:=.cells #[.slice Ao18 t349.length co18] 28 (0,0)) zt11_9 hg (Kd.N_ne HO357.out BK354.out (by decide)));have n5_:=zm_ (below_weaken zt11_10 HL.out hb);have n6_:=zm_ (KeepBut.trans zt11_1 (KeepBut.of_grown hg g) (Kd.N_base2 HO357.out));have n7_:=zm_ (ho);clear HI0;clear BK342;clear HO348;clear HO351;clear BK354;clear HB;clear HK;clear HO357;have HI0:=n0_;have BK342:=n1_;have HO348:=n2_;have HO351:=n3_;have BK354:=n4_;have HB:=n5_;have HK:=n6_;have HO360:=n7_;clear n0_ n1_ n2_ n3_ n4_ n5_ n6_ n7_;clear ho hb hg hat;obtain ⟨Ao26,co26,eo26⟩:=Kd.N_slice HO360.out;subst eo26)|((with_reducible refine gate_dst (N:=5) rfl ?_);refine box_event ?hg (N:=5) ?hd (cs:=#[.slice none 0 0]) (t:=28) ?hr ?_;(case hd => rfl);(case hg => rfl);(case hr => first|(go_simp;done)|(go_simp;rfl));intro gb361 hg w27 hbox hb;have n0_:=zm_ (Kd.R_below zt11_8 hb);have n1_:=zm_ (Kd.N_below (Kd.N_elderB zt11_15 gb361 (Nat.le_of_eq hg.symm)) hb);have n2_:=zm_ (Kd.N_below (Kd.N_elderB zt11_17 gb361 (Nat.le_of_eq hg.symm)) hb);have n3_:=zm_ (IsS109.below zt11_3 hb);have n4_:=zm_ (blk_below (g:=gb342) (o:=.cells #[.slice none 0 0] 28 (0,0)) zt11_4 hb);have n5_:=zm_ (blk_below (g:=gb354) (o:=.cells #[.slice Ao18 t349.length co18] 28 (0,0)) zt11_9 hb);have n6_:=zm_ (KeepBut.trans zt11_1 (KeepBut.of_below hb g none) (.inl rfl));have n7_:=zm_ (below_step zt11_10 hb);have n8_:=zm_ (hbox);have n9_:=zm_ ((zt11_32 : w.heap.size ≤ gb361));have n10_:=zm_ ((Nat.le_trans HW0.out (zt11_32 : w.heap.size ≤ gb361) : w0.heap.size ≤ gb361));have n11_:=zm_ ((zt11_19 : gb342 ≠ gb361));have n12_:=zm_ ((zt11_20 : gb361 ≠ gb342));have n13_:=zm_ ((by rw [hg];exact Nat.ne_of_lt (blk_lt (g:=gb354) (o:=.cells #[.slice Ao18 t349.length co18] 28 (0,0)) zt11_9) : gb354 ≠ gb361));have n14_:=zm_ ((by rw [hg];exact Nat.ne_of_gt (blk_lt (g:=gb354) (o:=.cells #[.slice Ao18 t349.length co18] 28 (0,0)) zt11_9) : gb361 ≠ gb354));have n15_:=zm_ ((zt11_38 : g ≠ gb361));have n16_:=zm_ ((zt11_39 : gb361 ≠ g));clear HO348;clear HO351;clear HO360;clear HI0;clear BK342;clear BK354;clear HK;clear HB;have HO348:=n0_;have HO351:=n1_;have HO360:=n2_;have HI0:=n3_;have BK342:=n4_;have BK354:=n5_;have HK:=n6_;have HB:=n7_;have BK361:=n8_;have GW361:=n9_;have GE361:=n10_;have NB342_361:=n11_;have NB361_342:=n12_;have NB354_361:=n13_;have NB361_354:=n14_;have NB0_361:=n15_;have NB361_0:=n16_;clear n0_ n1_ n2_ n3_ n4_ n5_ n6_ n7_ n8_ n9_ n10_ n11_ n12_ n13_ n14_ n15_ n16_;clear hb hbox hg;have hnb28:=NB361_342.out;have hnc28:=NB342_361.out;have hnb29:=NB361_354.out;have hnc29:=NB354_361.out;have hnb30:=NB361_0.out;have hnc30:=NB0_361.out;have hcz31_0 : w27.cell? ⟨gb361,0,none⟩ = some (.slice none 0 0):=(zc_ BK361.out 0).trans rfl;have hfz31_0:=zf_ BK361.out 0)|((with_reducible refine gate_callee (f:=43) rfl ?_);refine goesL_ (some 21) rfl rfl Try.func43 (by kernel_rfl) rfl #[.pointer (some ⟨g,0,none⟩),.int .i64 (y358.length : Int)] rfl zq_ ?_;(with_reducible refine (spec_l01Below.calls g s0_0 t352 t353 (y358.length : Int) t362 t363 t364 w0 _ ?side1 ?side2 A5.out).mono ?_);(case side1 => repeat (first|(with_reducible first|exact HI0.out|apply IsS109.alloc|apply IsS109.drewN|apply IsS109.drew|apply IsS109.set_1|apply IsS109.set_2|refine IsS109.far ?_ NB0_342.out _|refine IsS109.far ?_ NB0_354.out _|refine IsS109.far ?_ NB0_361.out _)|exact HI0.out));(case side2 => repeat (first|(with_reducible first|exact HB.out|apply za_|apply zn_|apply zd_|refine zs_ ?_ (IsS109.ge HI0.out)|refine zs_ ?_ GE342.out|refine zs_ ?_ GE354.out|refine zs_ ?_ GE361.out)|exact HB.out));rintro e w32 ⟨rfl,hi,hb,hk⟩;refine ⟨_,rfl,?_⟩;have n0_:=zm_ (KeepBut.blk hk (g':=gb342) (o:=.cells #[.slice none 0 0] 28 (0,0)) zt11_21 NB342_0.out (by simp));have n1_:=zm_ (Kd.R_mono (Kd.R_keep (IsS109.apart (show IsS109 w0 _ g s0_0 t352 t353 from zt11_7) (by (with_reducible repeat (first|apply Kd.R_alloc|apply Kd.R_drewN|apply Kd.R_drew));exact (Kd.R_mono (Kd.R_far (p:=⟨gb361,0,none⟩) (Kd.R_types HO348.out BK361.out (by decide)) (fun _ hk => hk.2) (.slice Ao26 y358.length co26)) (fun _ h_ => h_.1))) (by decide)) hk (fun _ h => h.2)) (fun _ h => h.1));have n2_:=zm_ (Kd.N_mono (Kd.N_keep (Kd.N_mono (ok:=fun k_ => (((((w.heap.size ≤ k_)) ∧ (some k_ ≠ (.slice Ao15 y346.length co15 : Value).ownBlock ∧ (k_ ≠ gb342 ∧ (k_ ≠ g ∧ k_ ≠ gb354)))) ∧ some k_ ≠ (.slice Ao26 y358.length co26 : Value).ownBlock) ∧ k_ ≠ gb361)) (by (with_reducible repeat (first|apply Kd.N_alloc|apply Kd.N_drewN|apply Kd.N_drew));exact (Kd.N_mono (Kd.N_far (p:=⟨gb361,0,none⟩) (Kd.N_mono HO351.out (fun k_ hk => (⟨hk,hk.2⟩ : _ ∧ k_ ≠ gb361))) (fun _ hk => hk.2) (.slice Ao26 y358.length co26)) (fun _ h_ => h_.1))) (fun k_ hk_ => (⟨hk_,hk_.1.1.2.2.2.1⟩ : _ ∧ k_ ≠ g))) hk (fun _ h => h.2)) (fun _ h => h.1));have n3_:=zm_ (KeepBut.blk hk (g':=gb354) (o:=.cells #[.slice Ao18 t349.length co18] 28 (0,0)) zt11_22 NB354_0.out (by simp));have n4_:=zm_ (Kd.N_mono (Kd.N_keep (Kd.N_mono (ok:=fun k_ => ((((w.heap.size ≤ k_)) ∧ (some k_ ≠ (.slice Ao15 y346.length co15 : Value).ownBlock ∧ (k_ ≠ gb342 ∧ (k_ ≠ gb354 ∧ k_ ≠ g)))) ∧ k_ ≠ gb361)) (by (with_reducible repeat (first|apply Kd.N_alloc|apply Kd.N_drewN|apply Kd.N_drew));exact (Kd.N_mono (Kd.N_far (p:=⟨gb361,0,none⟩) (Kd.N_mono HO360.out (fun k_ hk => (⟨hk,hk.2⟩ : _ ∧ k_ ≠ gb361))) (fun _ hk => hk.2) (.slice Ao26 y358.length co26)) (fun _ h_ => h_.1))) (fun k_ hk_ => (⟨hk_,hk_.1.2.2.2.2⟩ : _ ∧ k_ ≠ g))) hk (fun _ h => h.2)) (fun _ h => h.1));have n5_:=zm_ (KeepBut.blk hk (g':=gb361) (o:=.cells #[.slice Ao26 y358.length co26] 28 (0,0)) zt11_18 NB361_0.out (by simp));have n6_:=zm_ (KeepBut.trans zt11_6 hk (.inl rfl));have n7_:=zm_ (hb);have n8_:=zm_ (hi);clear BK342;clear HO348;clear HO351;clear BK354;clear HO360;clear BK361;clear HK;clear HB;clear HI0;have BK342:=n0_;have HO348:=n1_;have HO351:=n2_;have BK354:=n3_;have HO360:=n4_;have BK361:=n5_;have HK:=n6_;have HB:=n7_;have HI0:=n8_;clear n0_ n1_ n2_ n3_ n4_ n5_ n6_ n7_ n8_;(try clear hb);(try clear hb2);(try clear hk);(try clear hi)))
     have n0_:=zm_ (Kd.R_drew HO348.out)
     have n1_:=zm_ (Kd.N_drew HO351.out)
     have n2_:=zm_ (Kd.N_drew HO360.out)
     have n3_:=zm_ (zr_ BK342.out)
     have n4_:=zm_ (zr_ BK354.out)
     have n5_:=zm_ (zr_ BK361.out)
     have n6_:=zm_ (IsS109.drew HI0.out)
     have n7_:=zm_ (keep_drew HK.out)
     have n8_:=zm_ (zd_ HB.out)
     clear HO348
     clear HO351
     clear HO360
     clear BK342
     clear BK354
     clear BK361
     clear HI0
     clear HK
     clear HB
     have HO348:=n0_
     have HO351:=n1_
     have HO360:=n2_
     have BK342:=n3_
     have BK354:=n4_
     have BK361:=n5_
     have HI0:=n6_
     have HK:=n7_
     have HB:=n8_
     clear n0_ n1_ n2_ n3_ n4_ n5_ n6_ n7_ n8_
     refine start_ (n:=8) (S:=fun w' => w'.cell? ⟨gb361,0,none⟩ = some (.slice Ao26 y358.length co26)) (ds:=[7]) #[false,false,false,false,false,false,false,false] (by kernel_rfl) rfl rfl ((zc_ BK361.out 0).trans rfl) (fun hHeld => ?_);refine with_tabW spec_l04Any.tab7 spec_l04Any.bits7 (fun HT_ HW_ => ?_)
     generalize w32.drew = w33 at HO348 HO351 HO360 BK342 BK354 BK361 HI0 HK HB hHeld ⊢
     refine pure_ (i:=0) (N:=some 25) (v:=?_) (a':=?_) #[true,false,false,false,false,false,false,false] rfl rfl (any_of HT_.out (by kernel_rfl)) (fun _ _ _ h => h) (Or.inl ⟨by rfl,?_⟩) ?_ ?_
     rotate_left
     ·intro w'
      go_simp
      with_reducible rfl
     rotate_left
     ·simp only [Act.put,List.setIfInBounds_toArray,List.set_cons_zero,List.set_cons_succ,i64_w,i32_w,IntKind.wrap_u8]
      rfl
     refine pure_ (i:=2) (N:=some 27) (v:=?_) (a':=?_) #[true,false,true,false,false,false,false,false] rfl rfl (any_of HT_.out (by kernel_rfl)) (fun _ _ _ h => h) (Or.inl ⟨by rfl,?_⟩) ?_ ?_
     rotate_left
     ·intro w'
      go_simp
      with_reducible rfl
     rotate_left
     ·simp only [Act.put,List.setIfInBounds_toArray,List.set_cons_zero,List.set_cons_succ,i64_w,i32_w,IntKind.wrap_u8]
      rfl
     refine pure_ (i:=3) (N:=some 28) (v:=?_) (a':=?_) #[true,false,true,true,false,false,false,false] rfl rfl (any_of HT_.out (by kernel_rfl)) (fun _ _ _ h => h) (Or.inl ⟨by rfl,?_⟩) ?_ ?_
     rotate_left
     ·intro w'
      go_simp
      with_reducible rfl
     rotate_left
     ·simp only [Act.put,List.setIfInBounds_toArray,List.set_cons_zero,List.set_cons_succ,i64_w,i32_w,IntKind.wrap_u8]
      rfl
     refine take_ (i:=1) (N:=some 26) (v:=?_) (a':=?_) #[true,true,true,true,false,false,false,false] rfl rfl (take_ofW HT_.out HW_.out (by kernel_rfl)) (fun _ _ _ h => h) (Or.inl ⟨by rfl,?_⟩) hHeld ?_ ?_
     rotate_left
     ·intro w' s0
      go_simp
      with_reducible rfl
     rotate_left
     ·simp only [Act.put,List.setIfInBounds_toArray,List.set_cons_zero,List.set_cons_succ,i64_w,i32_w,IntKind.wrap_u8]
      rfl
     refine one_ (i:=4) (N:=some 29) #[true,true,true,true,true,false,false,false] rfl rfl (one_of HT_.out (by kernel_rfl)) (by decide) (fun K hK => ?_)
     refine goes_ Try.func43 (by kernel_rfl) rfl #[.pointer (some ⟨g,0,none⟩),.int .i64 13] (by rfl) rfl rfl zq_ ?_
     with_reducible refine (spec_l01Below.calls g s0_0 t363 t364 13 t365 t366 t367 w0 _ ?side1 ?side2 A7.out).mono ?_
     (case side1 => repeat (first|(with_reducible first|exact HI0.out|apply IsS109.alloc|apply IsS109.drewN|apply IsS109.drew|apply IsS109.set_1|apply IsS109.set_2|refine IsS109.far ?_ NB0_342.out _|refine IsS109.far ?_ NB0_354.out _|refine IsS109.far ?_ NB0_361.out _)|exact HI0.out))
     (case side2 => repeat (first|(with_reducible first|exact HB.out|apply za_|apply zn_|apply zd_|refine zs_ ?_ (IsS109.ge HI0.out)|refine zs_ ?_ GE342.out|refine zs_ ?_ GE354.out|refine zs_ ?_ GE361.out)|exact HB.out))
     rintro e w34 ⟨rfl,hi,hb,hk⟩
     refine ⟨_,rfl,?_⟩
     have n0_:=zm_ (KeepBut.blk hk (g':=gb342) (o:=.cells #[.slice none 0 0] 28 (0,0)) zt11_4 NB342_0.out (by simp))
     have n1_:=zm_ (Kd.R_mono (Kd.R_keep (IsS109.apart (show IsS109 w0 _ g s0_0 t363 t364 from zt11_7) zt11_8 (by decide)) hk (fun _ h => h.2)) (fun _ h => h.1))
     have n2_:=zm_ (Kd.N_mono (Kd.N_keep (Kd.N_mono (ok:=fun k_ => (((((w.heap.size ≤ k_)) ∧ (some k_ ≠ (.slice Ao15 y346.length co15 : Value).ownBlock ∧ (k_ ≠ gb342 ∧ (k_ ≠ g ∧ k_ ≠ gb354)))) ∧ some k_ ≠ (.slice Ao26 y358.length co26 : Value).ownBlock) ∧ k_ ≠ gb361)) zt11_15 (fun k_ hk_ => (⟨hk_,hk_.1.1.2.2.2.1⟩ : _ ∧ k_ ≠ g))) hk (fun _ h => h.2)) (fun _ h => h.1))
     have n3_:=zm_ (KeepBut.blk hk (g':=gb354) (o:=.cells #[.slice Ao18 t349.length co18] 28 (0,0)) zt11_9 NB354_0.out (by simp))
     have n4_:=zm_ (Kd.N_mono (Kd.N_keep (Kd.N_mono (ok:=fun k_ => ((((w.heap.size ≤ k_)) ∧ (some k_ ≠ (.slice Ao15 y346.length co15 : Value).ownBlock ∧ (k_ ≠ gb342 ∧ (k_ ≠ gb354 ∧ k_ ≠ g)))) ∧ k_ ≠ gb361)) zt11_17 (fun k_ hk_ => (⟨hk_,hk_.1.2.2.2.2⟩ : _ ∧ k_ ≠ g))) hk (fun _ h => h.2)) (fun _ h => h.1))
     have n5_:=zm_ (KeepBut.blk hk (g':=gb361) (o:=.cells #[.slice Ao26 y358.length co26] 28 (0,0)) zt11_27 NB361_0.out (by simp))
     have n6_:=zm_ (KeepBut.trans zt11_6 hk (.inl rfl))
     have n7_:=zm_ (hb)
     have n8_:=zm_ (hi)
     clear BK342
     clear HO348
     clear HO351
     clear BK354
     clear HO360
     clear BK361
     clear HK
     clear HB
     clear HI0
     have BK342:=n0_
     have HO348:=n1_
     have HO351:=n2_
     have BK354:=n3_
     have HO360:=n4_
     have BK361:=n5_
     have HK:=n6_
     have HB:=n7_
     have HI0:=n8_
     clear n0_ n1_ n2_ n3_ n4_ n5_ n6_ n7_ n8_
     (try clear hb)
     (try clear hb2)
     (try clear hk)
     (try clear hi)
     have p10 : 0 ≤ (t362 : Int):=zo_
     have q10 : (t362 : Int) < ((y358.length : Int) : Int):=zo_
     obtain ⟨go10,co10,eo10,gb10,gl10,cl10,HG10⟩:=Kd.N_form HO360.out (by omega)
     (first|cases eo10|(injection eo10 with ea_ en_ ec_;(first|subst ea_|(injection ea_ with ea_;subst ea_));subst ec_;clear en_))
     have GB10:=zm_ gb10
     have GG10:=zm_ HG10
     clear gb10 gl10 HG10
     obtain ⟨ce10,hcl10,hM10,hcc10,hfr10⟩:=Kd.N_elem HO360.out z34 (t362 : Int) p10 q10
     obtain ⟨ua10_3,uc10_3,rfl,ul10_3,ge10_3⟩:=k34_openF hM10
     have hx10_0 : World.cell? _ ⟨go10,(t362 : Int).toNat * 4,none⟩ = some (.int .i64 ((rd_T34 y358 t362).f0)):=hcc10 0 _ rfl
     have hx10_1 : World.cell? _ ⟨go10,(t362 : Int).toNat * 4 + 1,none⟩ = some (.int .i64 ((rd_T34 y358 t362).f1)):=hcc10 1 _ rfl
     have hx10_2 : World.cell? _ ⟨go10,(t362 : Int).toNat * 4 + 2,none⟩ = some (.string ((rd_T34 y358 t362).f2)):=hcc10 2 _ rfl
     have hx10_3 : World.cell? _ ⟨go10,(t362 : Int).toNat * 4 + 3,none⟩ = some (.slice ua10_3 ((rd_T34 y358 t362).f3).length uc10_3):=hcc10 3 _ rfl
     have hf10_0 : World.frozen? _ ⟨go10,(t362 : Int).toNat * 4,none⟩ = false:=hfr10 0
     have hf10_1 : World.frozen? _ ⟨go10,(t362 : Int).toNat * 4 + 1,none⟩ = false:=hfr10 1
     have hf10_2 : World.frozen? _ ⟨go10,(t362 : Int).toNat * 4 + 2,none⟩ = false:=hfr10 2
     have hf10_3 : World.frozen? _ ⟨go10,(t362 : Int).toNat * 4 + 3,none⟩ = false:=hfr10 3
     clear hcl10 hcc10 hfr10 hM10
     replace p10:=eq_true p10
     replace q10:=eq_true q10
     have HN0_go10:=zm_ (show g ≠ go10 from by have h_:=IsS109.own_neN HI0.out HO360.out (by decide);intro e_;exact h_ (by rw [e_];rfl))
     have HX35:=zm_ (show Kd.N k34 34 _ w.heap.size (fun k_ => (w.heap.size ≤ k_) ∧ some k_ ≠ (.slice Ao15 y346.length co15 : Value).ownBlock ∧ k_ ≠ gb342 ∧ k_ ≠ gb354 ∧ k_ ≠ gb361 ∧ k_ ≠ g) (.slice (some ⟨go10,0,none⟩) y358.length co26) y358 from (Kd.N_mono (HO360.out) (fun k_ hk => ⟨hk.1.1,⟨hk.1.2.1,⟨hk.1.2.2.1,⟨hk.1.2.2.2.1,⟨hk.2,hk.1.2.2.2.2⟩⟩⟩⟩⟩)))
     obtain ⟨ce35,hcl35,hM35,hcc35,hfr35⟩:=Kd.N_elem HX35.out z34 (t362 : Int) (zo_) zt11_24
     obtain ⟨ua35_3,uc35_3,rfl,ul35_3,ge35_3⟩:=k34_openF hM35
     have HP35:=(Kd.N_seg HX35.out (t362 : Int) (zo_) zt11_24 (seg:=[.int .i64 t365]) (j:=0) hcl35 hcc35 (show 1 ≤ 4 from by decide) (x':=(⟨t365,(rd_T34 y358 t362).f1,(rd_T34 y358 t362).f2,(rd_T34 y358 t362).f3⟩ : S34)) (k34_mkF _ _ (⟨t365,(rd_T34 y358 t362).f1,(rd_T34 y358 t362).f2,(rd_T34 y358 t362).f3⟩ : S34) ul35_3 ge35_3) (fun _ hk => hk)).1
     rw [← Ny368.out] at HP35
     have HQ35:=zm_ HP35
     clear hcl35 hcc35 hfr35 hM35 HP35
     refine hK.out _ _ ((zc_ BK361.out 0).trans rfl) (fun hHeld => ?_)
     clear hK K
     refine norm_ (a':=?_) ?_ ?_
     rotate_left
     ·show Act.put _ (some 29) _ = _
      simp only [Act.put,List.setIfInBounds_toArray,List.set_cons_zero,List.set_cons_succ,i64_w,i32_w,IntKind.wrap_u8]
      rfl
     refine pure_ (i:=5) (N:=some 30) (v:=?_) (a':=?_) #[true,true,true,true,true,true,false,false] rfl rfl (any_of HT_.out (by kernel_rfl)) (fun _ _ _ h => h) (Or.inl ⟨by rfl,?_⟩) ?_ ?_
     rotate_left
     ·intro w'
      go_simp
      with_reducible rfl
     rotate_left
     ·simp only [Act.put,List.setIfInBounds_toArray,List.set_cons_zero,List.set_cons_succ,i64_w,i32_w,IntKind.wrap_u8]
      rfl
     refine pure_ (i:=6) (N:=some 31) (v:=?_) (a':=?_) #[true,true,true,true,true,true,true,false] rfl rfl (any_of HT_.out (by kernel_rfl)) (fun _ _ _ h => h) (Or.inl ⟨by rfl,?_⟩) ?_ ?_
     rotate_left
     ·intro w'
      go_simp
      with_reducible rfl
     rotate_left
     ·simp only [Act.put,List.setIfInBounds_toArray,List.set_cons_zero,List.set_cons_succ,i64_w,i32_w,IntKind.wrap_u8]
      rfl
     refine last_ (i:=7) (N:=none) #[true,true,true,true,true,true,true,true] rfl rfl (one_of HT_.out (by kernel_rfl)) (by decide) (fun K hK => ?_)
     refine skip_ (w1:=?_) (by rfl) rfl ?_ ?_
     rotate_left
     ·go_simp
      rfl
     refine hK.out _ _ ?_
     clear hK K
     refine done_ (done_of HT_.out (by kernel_rfl)) ?_
     have n0_ : Aside0 (Kd.R Kd.string 9 (w34.setCell ⟨go10,(t362 : Int).toNat * 4,none⟩ (.int .i64 t365)) w.heap.size (fun k_ => (w.heap.size ≤ k_)) (.slice Ao15 y346.length co15) y346):=⟨by (with_reducible repeat (first|apply Kd.R_alloc|apply Kd.R_drewN|apply Kd.R_drew));exact Kd.R_mono (Kd.R_far (p:=⟨go10,(t362 : Int).toNat * 4,none⟩) (Kd.R_types HO348.out GG10.out (by decide)) (fun _ hk => hk.2) (.int .i64 t365)) (fun _ hk => hk.1.1)⟩
     have n1_ : Aside0 (Kd.N k34 34 (w34.setCell ⟨go10,(t362 : Int).toNat * 4,none⟩ (.int .i64 t365)) w.heap.size (fun k_ => (w.heap.size ≤ k_) ∧ some k_ ≠ (.slice Ao15 y346.length co15 : Value).ownBlock ∧ some k_ ≠ (.slice (some ⟨go10,0,none⟩) y358.length co26 : Value).ownBlock ∧ k_ ≠ gb342 ∧ k_ ≠ g ∧ k_ ≠ gb354 ∧ k_ ≠ gb361) (.slice Ao18 t349.length co18) t349):=⟨by (with_reducible repeat (first|apply Kd.N_alloc|apply Kd.N_drewN|apply Kd.N_drew));exact Kd.N_mono (Kd.N_far (p:=⟨go10,(t362 : Int).toNat * 4,none⟩) (Kd.N_mono HO351.out (fun k_ hk => (⟨hk,fun e_ => hk.1.2 (by rw [e_];rfl)⟩ : _ ∧ k_ ≠ go10))) (fun _ hk => hk.2) (.int .i64 t365)) (fun _ hk => ⟨hk.1.1.1.1,⟨hk.1.1.1.2.1,⟨hk.1.1.2,⟨hk.1.1.1.2.2.1,⟨hk.1.1.1.2.2.2.1,⟨hk.1.1.1.2.2.2.2,hk.1.2⟩⟩⟩⟩⟩⟩)⟩
     have n2_ : Aside0 (Kd.N k34 34 (w34.setCell ⟨go10,(t362 : Int).toNat * 4,none⟩ (.int .i64 t365)) w.heap.size (fun k_ => (w.heap.size ≤ k_) ∧ some k_ ≠ (.slice Ao15 y346.length co15 : Value).ownBlock ∧ k_ ≠ gb342 ∧ k_ ≠ gb354 ∧ k_ ≠ g ∧ k_ ≠ gb361) (.slice (some ⟨go10,0,none⟩) y358.length co26) y368):=⟨by (with_reducible repeat (first|apply Kd.N_alloc|apply Kd.N_drewN|apply Kd.N_drew));exact Kd.N_mono HQ35.out (fun _ hk => ⟨hk.1,⟨hk.2.1,⟨hk.2.2.1,⟨hk.2.2.2.1,⟨hk.2.2.2.2.2,hk.2.2.2.2.1⟩⟩⟩⟩⟩)⟩
     have n3_ : Aside0 ((w34.setCell ⟨go10,(t362 : Int).toNat * 4,none⟩ (.int .i64 t365)).heap[gb342]? = some (.cells #[.slice none 0 0] 28 (0,0))):=⟨by (with_reducible repeat first|refine zl_ ?_ _|refine zr_ ?_|refine zk_ ?_ _);refine blk_far ?_ zt11_52 _;(with_reducible repeat first|refine zl_ ?_ _|refine zr_ ?_|refine zk_ ?_ _);exact BK342.out⟩
     have n4_ : Aside0 ((w34.setCell ⟨go10,(t362 : Int).toNat * 4,none⟩ (.int .i64 t365)).heap[gb354]? = some (.cells #[.slice Ao18 t349.length co18] 28 (0,0))):=⟨by (with_reducible repeat first|refine zl_ ?_ _|refine zr_ ?_|refine zk_ ?_ _);refine blk_far ?_ zt11_53 _;(with_reducible repeat first|refine zl_ ?_ _|refine zr_ ?_|refine zk_ ?_ _);exact BK354.out⟩
     have n5_ : Aside0 ((w34.setCell ⟨go10,(t362 : Int).toNat * 4,none⟩ (.int .i64 t365)).heap[gb361]? = some (.cells #[.slice (some ⟨go10,0,none⟩) y358.length co26] 28 (0,0))):=⟨by (with_reducible repeat first|refine zl_ ?_ _|refine zr_ ?_|refine zk_ ?_ _);refine blk_far ?_ zt11_54 _;(with_reducible repeat first|refine zl_ ?_ _|refine zr_ ?_|refine zk_ ?_ _);exact BK361.out⟩
     have n6_ : Aside0 (IsS109 w0 (w34.setCell ⟨go10,(t362 : Int).toNat * 4,none⟩ (.int .i64 t365)) g s0_0 t366 t367):=⟨by repeat (first|(with_reducible first|exact HI0.out|apply IsS109.alloc|apply IsS109.drewN|apply IsS109.drew|apply IsS109.set_1|apply IsS109.set_2|refine IsS109.far ?_ HN0_go10.out _|refine IsS109.far ?_ NB0_342.out _|refine IsS109.far ?_ NB0_354.out _|refine IsS109.far ?_ NB0_361.out _)|exact HI0.out)⟩
     have n7_ : Aside0 (KeepBut w (w34.setCell ⟨go10,(t362 : Int).toNat * 4,none⟩ (.int .i64 t365)) g none):=⟨by repeat (first|(with_reducible first|exact HK.out|apply KeepBut.set_|apply keep_drewN|apply keep_drew|apply keep_alloc|refine keep_far ?_ GB10.out _|refine keep_far ?_ GW342.out _|refine keep_far ?_ GW354.out _|refine keep_far ?_ GW361.out _)|exact HK.out)⟩
     have n8_ : Aside0 (Below w0.heap.size w0 (w34.setCell ⟨go10,(t362 : Int).toNat * 4,none⟩ (.int .i64 t365))):=⟨by repeat (first|(with_reducible first|exact HB.out|apply za_|apply zn_|apply zd_|refine zs_ ?_ (Nat.le_trans HL.out GB10.out)|refine zs_ ?_ (IsS109.ge HI0.out)|refine zs_ ?_ GE342.out|refine zs_ ?_ GE354.out|refine zs_ ?_ GE361.out)|exact HB.out)⟩
     (try clear HO348)
     (try clear HO351)
     (try clear HO360)
     (try clear BK342)
     (try clear BK354)
     (try clear BK361)
     (try clear HI0)
     (try clear HK)
     (try clear HB)
     generalize (w34.setCell ⟨go10,(t362 : Int).toNat * 4,none⟩ (.int .i64 t365)) = w36 at n0_ n1_ n2_ n3_ n4_ n5_ n6_ n7_ n8_ ⊢
     have HO348:=n0_
     have HO351:=n1_
     have HO360:=n2_
     have BK342:=n3_
     have BK354:=n4_
     have BK361:=n5_
     have HI0:=n6_
     have HK:=n7_
     have HB:=n8_
     clear n0_ n1_ n2_ n3_ n4_ n5_ n6_ n7_ n8_
     have hcz37_0 : w36.cell? ⟨gb361,0,none⟩ = some (.slice (some ⟨go10,0,none⟩) y358.length co26):=(zc_ BK361.out 0).trans rfl
     have hfz37_0:=zf_ BK361.out 0
     have hnb38:=NB342_0.out
     have hnc38:=NB0_342.out
     have hcz39_0 : w36.cell? ⟨gb342,0,none⟩ = some (.slice none 0 0):=(zc_ BK342.out 0).trans rfl
     have hfz39_0:=zf_ BK342.out 0
     try go_wp2
     refine bodyPost_ret (results_cell_row rfl _ _ gb342 28 #[.slice (some ⟨go10,0,none⟩) y358.length co26] (0,0) _ rfl zt11_26 Try.underlying28 rfl (by kernel_rfl)) rfl ?_
     exact ⟨_,by first|rfl|(simp [errW_none,errW_some] <;> rfl)|(simp [*,errW_none,errW_some] <;> rfl),by (with_reducible repeat (first|apply Kd.N_alloc|apply Kd.N_drewN|apply Kd.N_drew));exact Kd.N_mono (Kd.N_far (p:=⟨gb342,0,none⟩) (Kd.N_mono HO360.out (fun k_ hk => (⟨hk,hk.2.2.1⟩ : _ ∧ k_ ≠ gb342))) (fun _ hk => hk.2) (.slice (some ⟨go10,0,none⟩) y358.length co26)) (fun _ hk => hk.1.1),by repeat (first|(with_reducible first|exact HI0.out|apply IsS109.alloc|apply IsS109.drewN|apply IsS109.drew|apply IsS109.set_1|apply IsS109.set_2|refine IsS109.far ?_ NB0_342.out _|refine IsS109.far ?_ NB0_354.out _|refine IsS109.far ?_ NB0_361.out _)|exact HI0.out),by repeat (first|(with_reducible first|exact HB.out|apply za_|apply zn_|apply zd_|refine zs_ ?_ (IsS109.ge HI0.out)|refine zs_ ?_ GE342.out|refine zs_ ?_ GE354.out|refine zs_ ?_ GE361.out)|exact HB.out),by repeat (first|(with_reducible first|exact HK.out|apply KeepBut.set_|apply keep_drewN|apply keep_drew|apply keep_alloc|refine keep_far ?_ GW342.out _|refine keep_far ?_ GW354.out _|refine keep_far ?_ GW361.out _)|exact HK.out)⟩
    ·rw [if_neg c9] at H
     exact absurd H (by simp)
   ·rw [if_neg c8] at H
    exact absurd H (by simp)
  ·rw [if_neg c6] at H
   have c6b0 : (t343 == 0) = false:=beq_eq_false_iff_ne.mpr c6
   have c6b1 : (t343 != 0) = true:=bne_iff_ne.mpr c6
   by_cases c40 : t343 = 1
   ·rw [if_pos c40] at H
    have c40b0 : (t343 == 1) = true:=beq_iff_eq.mpr c40
    have c40b1 : (t343 != 1) = false:=bne_eq_false_iff_eq.mpr c40
    clear c40
    obtain ⟨y369,hy369⟩ : ∃ y_ : List Int,y_ = (([(-1),5,99,100] : List Int)):=⟨_,rfl⟩
    replace H : ((spec_l01PickInt.f s0_0 t363 t364 y369).bind fun bt372 => (if 0 ≤ t362 then (if t362 < (y358.length : Int) then (some ((y358.set (t362 : Int).toNat (⟨(rd_T34 y358 t362).f0,bt372.1,(rd_T34 y358 t362).f2,(rd_T34 y358 t362).f3⟩ : S34)),bt372.2.1,bt372.2.2)) else (none)) else (none))) = some (r1,r2,r3):=by first|(rw [hy369];with_reducible exact H)|(have H2_:=(Option.bind_some _ _).symm.trans H;rw [hy369];with_reducible exact H2_)|(have H2_:=(Option.bind_some _ _).symm.trans H;with_reducible exact H2_)|with_reducible exact H|(rw [hy369];exact H)|exact H
    have Ny369:=zm_ hy369
    clear hy369
    replace H:=Option.bind_eq_some_iff.mp H
    obtain ⟨⟨t372,t373,t374⟩,A410,H⟩:=H
    replace H : (if 0 ≤ t362 then (if t362 < (y358.length : Int) then (some ((y358.set (t362 : Int).toNat (⟨(rd_T34 y358 t362).f0,t372,(rd_T34 y358 t362).f2,(rd_T34 y358 t362).f3⟩ : S34)),t373,t374)) else (none)) else (none)) = some (r1,r2,r3):=H
    have A41:=zm_ A410
    clear A410
    by_cases c42 : 0 ≤ t362
    ·rw [if_pos c42] at H
     have c42b0 : decide (0 ≤ t362) = true:=decide_eq_true c42
     clear c42
     by_cases c43 : t362 < (y358.length : Int)
     ·rw [if_pos c43] at H
      have c43b0 : decide (t362 < (y358.length : Int)) = true:=decide_eq_true c43
      clear c43
      obtain ⟨y375,hy375⟩ : ∃ y_ : List (S34),y_ = (y358.set (t362 : Int).toNat (⟨(rd_T34 y358 t362).f0,t372,(rd_T34 y358 t362).f2,(rd_T34 y358 t362).f3⟩ : S34)):=⟨_,rfl⟩
      replace H : (some (y375,t373,t374)) = some (r1,r2,r3):=by first|(rw [hy375];with_reducible exact H)|(have H2_:=(Option.bind_some _ _).symm.trans H;rw [hy375];with_reducible exact H2_)|(have H2_:=(Option.bind_some _ _).symm.trans H;with_reducible exact H2_)|with_reducible exact H|(rw [hy375];exact H)|exact H
      have Ny375:=zm_ hy375
      clear hy375
      simp only [Option.some.injEq,Prod.mk.injEq] at H
      obtain ⟨rfl,rfl,rfl⟩:=H
      go_enter Try.func47,Try.ntmps47
      try go_wp2_with (first|((with_reducible refine gate_dst (N:=2) rfl ?_);refine box_event ?hg (N:=2) ?hd (cs:=#[.slice none 0 0]) (t:=28) ?hr ?_;(case hd => rfl);(case hg => rfl);(case hr => first|(go_simp;done)|(go_simp;rfl));intro gb342 hg w45 hbox hb;have n0_:=zm_ (IsS109.below zt11_11 hb);have n1_:=zm_ (KeepBut.trans zt11_13 (KeepBut.of_below hb g none) (.inl rfl));have n2_:=zm_ (below_step zt11_29 hb);have n3_:=zm_ (hbox);have n4_:=zm_ ((zt11_30 : w.heap.size ≤ gb342));have n5_:=zm_ ((Nat.le_trans HW0.out (zt11_30 : w.heap.size ≤ gb342) : w0.heap.size ≤ gb342));have n6_:=zm_ ((zt11_34 : g ≠ gb342));have n7_:=zm_ ((zt11_35 : gb342 ≠ g));clear HI0;clear HK;clear HB;have HI0:=n0_;have HK:=n1_;have HB:=n2_;have BK342:=n3_;have GW342:=n4_;have GE342:=n5_;have NB0_342:=n6_;have NB342_0:=n7_;clear n0_ n1_ n2_ n3_ n4_ n5_ n6_ n7_;clear hb hbox hg)|((with_reducible refine gate_callee (f:=43) rfl ?_);refine goesL_ (some 8) rfl rfl Try.func43 (by kernel_rfl) rfl #[.pointer (some ⟨g,0,none⟩),.int .i64 16] rfl zq_ ?_;(with_reducible refine (spec_l01Below.calls g s0_0 s0_1 s0_2 16 t343 t344 t345 w0 _ ?side1 ?side2 A2.out).mono ?_);(case side1 => repeat (first|(with_reducible first|exact HI0.out|apply IsS109.alloc|apply IsS109.drewN|apply IsS109.drew|apply IsS109.set_1|apply IsS109.set_2|refine IsS109.far ?_ NB0_342.out _)|exact HI0.out));(case side2 => repeat (first|(with_reducible first|exact HB.out|apply za_|apply zn_|apply zd_|refine zs_ ?_ (IsS109.ge HI0.out)|refine zs_ ?_ GE342.out)|exact HB.out));rintro e w46 ⟨rfl,hi,hb,hk⟩;refine ⟨_,rfl,?_⟩;have n0_:=zm_ (KeepBut.blk hk (g':=gb342) (o:=.cells #[.slice none 0 0] 28 (0,0)) zt11_4 NB342_0.out (by simp));have n1_:=zm_ (KeepBut.trans zt11_2 hk (.inl rfl));have n2_:=zm_ (hb);have n3_:=zm_ (hi);clear BK342;clear HK;clear HB;clear HI0;have BK342:=n0_;have HK:=n1_;have HB:=n2_;have HI0:=n3_;clear n0_ n1_ n2_ n3_;(try clear hb);(try clear hb2);(try clear hk);(try clear hi))|((with_reducible refine gate_dst (N:=10) rfl ?_);refine Kd.R_lit Kd.string _ 9 ?hg (N:=10) ?hd (xs:=([(⟨#[97]⟩ : ByteArray),(⟨#[98]⟩ : ByteArray),(⟨#[110]⟩ : ByteArray)] : List ByteArray)) (inner:=[.string (⟨#[97]⟩ : ByteArray),.string (⟨#[98]⟩ : ByteArray),.string (⟨#[110]⟩ : ByteArray)]) (ok:=fun _ => True) (okp:=fun _ => True) ?hr ?hp (fun _ hk => hk) trivial (Below.refl _ _) (Nat.le_refl _) (by simp) ?_;(case hd => rfl);(case hg => rfl);(case hr => first|(go_simp;done)|(go_simp;rfl));(case hp => exact (Reps.one (show Kd.M Kd.string _ _ _ (⟨#[97]⟩ : ByteArray) [.string (⟨#[97]⟩ : ByteArray)] from rfl) (Reps.one (show Kd.M Kd.string _ _ _ (⟨#[98]⟩ : ByteArray) [.string (⟨#[98]⟩ : ByteArray)] from rfl) (Reps.one (show Kd.M Kd.string _ _ _ (⟨#[110]⟩ : ByteArray) [.string (⟨#[110]⟩ : ByteArray)] from rfl) (Reps.none _ _)))));intro v347 w47 ho48 hb hg_ hnew_;clear hg_ hnew_;(first|rw [← Ny346.out] at ho48|(simp only [Int.reduceToNat] at ho48;rw [← Ny346.out] at ho48));have n0_:=zm_ (Kd.R_lower (Kd.R_newM (M:=fun k_ => (w.heap.size ≤ k_)) ho48 (keep_size (w:=w) (g:=g) (row:=none) zt11_2) (fun k_ h_ => h_)) (keep_size (w:=w) (g:=g) (row:=none) zt11_2));have n1_:=zm_ (IsS109.below zt11_5 hb);have n2_:=zm_ (blk_below (g:=gb342) (o:=.cells #[.slice none 0 0] 28 (0,0)) zt11_4 hb);have n3_:=zm_ (KeepBut.trans zt11_2 (KeepBut.of_below hb g none) (.inl rfl));have n4_:=zm_ (below_step zt11_16 hb);clear HI0;clear BK342;clear HK;clear HB;have HO348:=n0_;have HI0:=n1_;have BK342:=n2_;have HK:=n3_;have HB:=n4_;clear n0_ n1_ n2_ n3_ n4_;clear hb ho48;obtain ⟨Ao49,co49,eo49⟩:=Kd.R_slice HO348.out;subst eo49)|((with_reducible refine gate_callee (f:=53) rfl ?_);refine goesL_ (some 11) rfl rfl Try.func53 (by kernel_rfl) rfl #[.pointer (some ⟨g,0,none⟩),.slice Ao49 y346.length co49,.int .i64 2] rfl zq_ ?_;(with_reducible refine (spec_l04Expr.calls g s0_0 t344 t345 _ _ y346 2 t349 t352 t353 w0 _ ?side1 ?side2 ?side3 ?side4 ?side5 A3.out).mono ?_);(case side1 => repeat (first|(with_reducible first|exact HI0.out|apply IsS109.alloc|apply IsS109.drewN|apply IsS109.drew|apply IsS109.set_1|apply IsS109.set_2|refine IsS109.far ?_ NB0_342.out _)|exact HI0.out));(case side2 => repeat (first|(with_reducible first|exact HB.out|apply za_|apply zn_|apply zd_|refine zs_ ?_ (IsS109.ge HI0.out)|refine zs_ ?_ GE342.out)|exact HB.out));(case side3 => repeat (first|exact (Kd.R_reads' HO348.out).2.2|(with_reducible refine Kd.C_alloc ?_ _)|(with_reducible refine Kd.C_drewN ?_ _)|(with_reducible refine Kd.C_drew ?_)));(case side4 => exact (Kd.R_reads' HO348.out).2.1);(case side5 => exact far_slice (IsS109.own_ne HI0.out HO348.out (by decide)));rintro e w50 ⟨v350,rfl,ho0,hi,hb,hk⟩;refine ⟨_,rfl,?_⟩;have n0_:=zm_ (KeepBut.blk hk (g':=gb342) (o:=.cells #[.slice none 0 0] 28 (0,0)) zt11_4 NB342_0.out (by simp));have n1_:=zm_ (Kd.R_mono (Kd.R_keep (IsS109.apart (show IsS109 w0 _ g s0_0 t344 t345 from zt11_5) zt11_8 (by decide)) hk (fun _ h => h.2)) (fun _ h => h.1));have n2_:=zm_ (Kd.N_lower (Kd.N_mono (ok':=fun k_ => (w.heap.size ≤ k_) ∧ some k_ ≠ (.slice Ao49 y346.length co49 : Value).ownBlock ∧ k_ ≠ gb342 ∧ k_ ≠ g) (Kd.S_N (Kd.S_bound ho0)) (fun k_ hk_ => ⟨(Nat.le_trans (keep_size (w:=w) (g:=g) (row:=none) zt11_2) hk_.2.1),(Kd.fresh' (Kd.R_lt zt11_8) k_ hk_.2.1),(Kd.freshB (g:=gb342) (o:=.cells #[.slice none 0 0] 28 (0,0)) zt11_4 k_ hk_.2.1),(IsS109.fresh zt11_5 k_ hk_.2.1)⟩)) (keep_size (w:=w) (g:=g) (row:=none) zt11_2));have n3_:=zm_ (KeepBut.trans zt11_2 hk (.inl rfl));have n4_:=zm_ (hb);have n5_:=zm_ (hi);clear BK342;clear HO348;clear HK;clear HB;clear HI0;have BK342:=n0_;have HO348:=n1_;have HO351:=n2_;have HK:=n3_;have HB:=n4_;have HI0:=n5_;clear n0_ n1_ n2_ n3_ n4_ n5_;(try clear hb);(try clear hb2);(try clear hk);(try clear hi);(try clear ho0))|((with_reducible refine gate_dst (N:=4) rfl ?_);refine box_event ?hg (N:=4) ?hd (cs:=#[.slice none 0 0]) (t:=28) ?hr ?_;(case hd => rfl);(case hg => rfl);(case hr => first|(go_simp;done)|(go_simp;rfl));intro gb354 hg w51 hbox hb;have n0_:=zm_ (Kd.R_below zt11_8 hb);have n1_:=zm_ (Kd.N_below (Kd.N_elderB zt11_15 gb354 (Nat.le_of_eq hg.symm)) hb);have n2_:=zm_ (IsS109.below zt11_5 hb);have n3_:=zm_ (blk_below (g:=gb342) (o:=.cells #[.slice none 0 0] 28 (0,0)) zt11_4 hb);have n4_:=zm_ (KeepBut.trans zt11_2 (KeepBut.of_below hb g none) (.inl rfl));have n5_:=zm_ (below_step zt11_16 hb);have n6_:=zm_ (hbox);have n7_:=zm_ ((zt11_31 : w.heap.size ≤ gb354));have n8_:=zm_ ((Nat.le_trans HW0.out (zt11_31 : w.heap.size ≤ gb354) : w0.heap.size ≤ gb354));have n9_:=zm_ ((zt11_19 : gb342 ≠ gb354));have n10_:=zm_ ((zt11_20 : gb354 ≠ gb342));have n11_:=zm_ ((zt11_36 : g ≠ gb354));have n12_:=zm_ ((zt11_37 : gb354 ≠ g));clear HO348;clear HO351;clear HI0;clear BK342;clear HK;clear HB;have HO348:=n0_;have HO351:=n1_;have HI0:=n2_;have BK342:=n3_;have HK:=n4_;have HB:=n5_;have BK354:=n6_;have GW354:=n7_;have GE354:=n8_;have NB342_354:=n9_;have NB354_342:=n10_;have NB0_354:=n11_;have NB354_0:=n12_;clear n0_ n1_ n2_ n3_ n4_ n5_ n6_ n7_ n8_ n9_ n10_ n11_ n12_;clear hb hbox hg;obtain ⟨Ao52,co52,eo52⟩:=Kd.N_slice HO351.out;subst eo52;have hnb53:=NB354_342.out;have hnc53:=NB342_354.out;have hnb54:=NB354_0.out;have hnc54:=NB0_354.out;have hcz55_0 : w51.cell? ⟨gb354,0,none⟩ = some (.slice none 0 0):=(zc_ BK354.out 0).trans rfl;have hfz55_0:=zf_ BK354.out 0)|((with_reducible refine gate_dst (N:=12) rfl ?_);refine Kd.N_lit k34 _ 34 ?hg (N':=12) ?hd (xs:=([] : List (S34))) (inner:=[]) (ok:=(fun k_ => (w.heap.size ≤ k_) ∧ some k_ ≠ (.slice Ao49 y346.length co49 : Value).ownBlock ∧ some k_ ≠ (.slice Ao52 t349.length co52 : Value).ownBlock ∧ k_ ≠ gb342 ∧ k_ ≠ gb354 ∧ k_ ≠ g)) (okp:=(fun k_ => (w.heap.size ≤ k_) ∧ some k_ ≠ (.slice Ao49 y346.length co49 : Value).ownBlock ∧ some k_ ≠ (.slice Ao52 t349.length co52 : Value).ownBlock ∧ k_ ≠ gb342 ∧ k_ ≠ gb354 ∧ k_ ≠ g)) ?hr ?hp (fun _ hk => hk) ((show ∀ k_,(w51.setCell ⟨gb354,0,none⟩ (.slice Ao52 t349.length co52)).heap.size ≤ k_ → (fun k_ => (w.heap.size ≤ k_) ∧ some k_ ≠ (.slice Ao49 y346.length co49 : Value).ownBlock ∧ some k_ ≠ (.slice Ao52 t349.length co52 : Value).ownBlock ∧ k_ ≠ gb342 ∧ k_ ≠ gb354 ∧ k_ ≠ g) k_ from fun k_ hk => ⟨(Nat.le_trans (keep_size (w:=w) (g:=g) (row:=none) zt11_1) hk),Kd.fresh' (Kd.R_lt zt11_50) k_ hk,Kd.fresh' (Kd.N_lt zt11_44) k_ hk,Kd.freshB (g:=gb342) (o:=.cells #[.slice none 0 0] 28 (0,0)) zt11_14 k_ hk,Kd.freshB (g:=gb354) (o:=.cells #[.slice Ao52 t349.length co52] 28 (0,0)) zt11_12 k_ hk,IsS109.fresh zt11_3 k_ hk⟩) _ (Nat.le_refl _)) (Below.refl _ _) (Nat.le_refl _) (by simp) ?_;(case hd => rfl);(case hg => rfl);(case hr => first|(go_simp;done)|(go_simp;rfl));(case hp => exact (Reps.none _ _));intro v356 w56 ho57 hb hg_ hnew_;clear hg_ hnew_;(first|rw [← Ny355.out] at ho57|(simp only [Int.reduceToNat] at ho57;rw [← Ny355.out] at ho57));have n0_:=zm_ (Kd.R_below zt11_50 hb);have n1_:=zm_ (Kd.N_elder' zt11_44 (Kd.N_base ho57) hb);have n2_:=zm_ (Kd.N_lower ho57 (keep_size (w:=w) (g:=g) (row:=none) zt11_1));have n3_:=zm_ (IsS109.below (show IsS109 w0 (w51.setCell ⟨gb354,0,none⟩ (.slice Ao52 t349.length co52)) g s0_0 t352 t353 from zt11_3) hb);have n4_:=zm_ (blk_below (g:=gb342) (o:=.cells #[.slice none 0 0] 28 (0,0)) zt11_14 hb);have n5_:=zm_ (blk_below (g:=gb354) (o:=.cells #[.slice Ao52 t349.length co52] 28 (0,0)) zt11_12 hb);have n6_:=zm_ (KeepBut.trans zt11_1 (KeepBut.of_below hb g none) (.inl rfl));have n7_:=zm_ (below_step zt11_10 hb);clear HO348;clear HO351;clear HI0;clear BK342;clear BK354;clear HK;clear HB;have HO348:=n0_;have HO351:=n1_;have HO357:=n2_;have HI0:=n3_;have BK342:=n4_;have BK354:=n5_;have HK:=n6_;have HB:=n7_;clear n0_ n1_ n2_ n3_ n4_ n5_ n6_ n7_;clear hb ho57;have hcz58_0 : w56.cell? ⟨gb354,0,none⟩ = some (.slice Ao52 t349.length co52):=(zc_ BK354.out 0).trans rfl;have hfz58_0:=zf_ BK354.out 0)|((with_reducible refine gate_builtin (b:=.append) (xs:=#[.tmp 12,.tmp 14]) rfl ?_);at_builtin;refine Kd.N_append_rows k34 w.heap.size rfl (.tmp 12) (.tmp 14) 26 34 (.agg #[(.int .i64 0),(.int .i64 0),(.string ⟨#[]⟩),(.slice none 0 0)]) 56 rfl Try.underlying26 info34 rfl (by decide) (by omega) v356 y355 t349 _ _ _ (fun k_ => (w.heap.size ≤ k_) ∧ some k_ ≠ (.slice Ao49 y346.length co49 : Value).ownBlock ∧ k_ ≠ gb342 ∧ k_ ≠ gb354 ∧ k_ ≠ g) (fun k_ => ((fun k_ => (w.heap.size ≤ k_) ∧ some k_ ≠ (.slice Ao49 y346.length co49 : Value).ownBlock ∧ k_ ≠ gb342 ∧ k_ ≠ gb354 ∧ k_ ≠ g)) k_ ∧ some k_ ≠ (v356 : Value).ownBlock) rfl rfl ?aO ?aR (fun _ hk => hk) ?aF (Below.refl _ _) ?aS ?aL ?_;(case aR => exact (by skip;exact Kd.N_F (Kd.N_mono (ok':=(fun k_ => ((fun k_ => (w.heap.size ≤ k_) ∧ some k_ ≠ (.slice Ao49 y346.length co49 : Value).ownBlock ∧ k_ ≠ gb342 ∧ k_ ≠ gb354 ∧ k_ ≠ g)) k_ ∧ some k_ ≠ (v356 : Value).ownBlock)) (HO351.out) (fun k_ hk => ⟨⟨hk.1.1.1,⟨hk.1.1.2.1,⟨hk.1.1.2.2.1,⟨hk.1.2,hk.1.1.2.2.2⟩⟩⟩⟩,hk.2⟩))));(case aF => exact (fun k_ hk => ⟨(Nat.le_trans (keep_size (w:=w) (g:=g) (row:=none) zt11_1) hk),Kd.fresh' (Kd.R_lt zt11_8) k_ hk,Kd.freshB (g:=gb342) (o:=.cells #[.slice none 0 0] 28 (0,0)) zt11_4 k_ hk,Kd.freshB (g:=gb354) (o:=.cells #[.slice Ao52 t349.length co52] 28 (0,0)) zt11_9 k_ hk,IsS109.fresh zt11_3 k_ hk⟩));(case aO => exact zt11_25);(case aS => exact (keep_size (w:=w) (g:=g) (row:=none) zt11_1));(case aL => have:=LMc4.out;omega);intro v359 w59 ho hb hg hat;rw [← Ny358.out] at ho;have n0_:=zm_ (IsS109.grown zt11_3 hg (IsS109.own_neN HI0.out HO357.out (by decide)));have n1_:=zm_ (blk_grown (g:=gb342) (o:=.cells #[.slice none 0 0] 28 (0,0)) zt11_4 hg (Kd.N_ne HO357.out BK342.out (by decide)));have n2_:=zm_ (Kd.R_over' zt11_8 (Kd.N_typed zt11_33) (by decide) hg);have n3_:=zm_ (Kd.N_afterv (ok:=(fun k_ => (w.heap.size ≤ k_) ∧ some k_ ≠ (.slice Ao49 y346.length co49 : Value).ownBlock ∧ k_ ≠ gb342 ∧ k_ ≠ g ∧ k_ ≠ gb354)) zt11_23 hg hat);have n4_:=zm_ (blk_grown (g:=gb354) (o:=.cells #[.slice Ao52 t349.length co52] 28 (0,0)) zt11_9 hg (Kd.N_ne HO357.out BK354.out (by decide)));have n5_:=zm_ (below_weaken zt11_10 HL.out hb);have n6_:=zm_ (KeepBut.trans zt11_1 (KeepBut.of_grown hg g) (Kd.N_base2 HO357.out));have n7_:=zm_ (ho);clear HI0;clear BK342;clear HO348;clear HO351;clear BK354;clear HB;clear HK;clear HO357;have HI0:=n0_;have BK342:=n1_;have HO348:=n2_;have HO351:=n3_;have BK354:=n4_;have HB:=n5_;have HK:=n6_;have HO360:=n7_;clear n0_ n1_ n2_ n3_ n4_ n5_ n6_ n7_;clear ho hb hg hat;obtain ⟨Ao60,co60,eo60⟩:=Kd.N_slice HO360.out;subst eo60)|((with_reducible refine gate_dst (N:=5) rfl ?_);refine box_event ?hg (N:=5) ?hd (cs:=#[.slice none 0 0]) (t:=28) ?hr ?_;(case hd => rfl);(case hg => rfl);(case hr => first|(go_simp;done)|(go_simp;rfl));intro gb361 hg w61 hbox hb;have n0_:=zm_ (Kd.R_below zt11_8 hb);have n1_:=zm_ (Kd.N_below (Kd.N_elderB zt11_15 gb361 (Nat.le_of_eq hg.symm)) hb);have n2_:=zm_ (Kd.N_below (Kd.N_elderB zt11_17 gb361 (Nat.le_of_eq hg.symm)) hb);have n3_:=zm_ (IsS109.below zt11_3 hb);have n4_:=zm_ (blk_below (g:=gb342) (o:=.cells #[.slice none 0 0] 28 (0,0)) zt11_4 hb);have n5_:=zm_ (blk_below (g:=gb354) (o:=.cells #[.slice Ao52 t349.length co52] 28 (0,0)) zt11_9 hb);have n6_:=zm_ (KeepBut.trans zt11_1 (KeepBut.of_below hb g none) (.inl rfl));have n7_:=zm_ (below_step zt11_10 hb);have n8_:=zm_ (hbox);have n9_:=zm_ ((zt11_32 : w.heap.size ≤ gb361));have n10_:=zm_ ((Nat.le_trans HW0.out (zt11_32 : w.heap.size ≤ gb361) : w0.heap.size ≤ gb361));have n11_:=zm_ ((zt11_19 : gb342 ≠ gb361));have n12_:=zm_ ((zt11_20 : gb361 ≠ gb342));have n13_:=zm_ ((by rw [hg];exact Nat.ne_of_lt (blk_lt (g:=gb354) (o:=.cells #[.slice Ao52 t349.length co52] 28 (0,0)) zt11_9) : gb354 ≠ gb361));have n14_:=zm_ ((by rw [hg];exact Nat.ne_of_gt (blk_lt (g:=gb354) (o:=.cells #[.slice Ao52 t349.length co52] 28 (0,0)) zt11_9) : gb361 ≠ gb354));have n15_:=zm_ ((zt11_38 : g ≠ gb361));have n16_:=zm_ ((zt11_39 : gb361 ≠ g));clear HO348;clear HO351;clear HO360;clear HI0;clear BK342;clear BK354;clear HK;clear HB;have HO348:=n0_;have HO351:=n1_;have HO360:=n2_;have HI0:=n3_;have BK342:=n4_;have BK354:=n5_;have HK:=n6_;have HB:=n7_;have BK361:=n8_;have GW361:=n9_;have GE361:=n10_;have NB342_361:=n11_;have NB361_342:=n12_;have NB354_361:=n13_;have NB361_354:=n14_;have NB0_361:=n15_;have NB361_0:=n16_;clear n0_ n1_ n2_ n3_ n4_ n5_ n6_ n7_ n8_ n9_ n10_ n11_ n12_ n13_ n14_ n15_ n16_;clear hb hbox hg;have hnb62:=NB361_342.out;have hnc62:=NB342_361.out;have hnb63:=NB361_354.out;have hnc63:=NB354_361.out;have hnb64:=NB361_0.out;have hnc64:=NB0_361.out;have hcz65_0 : w61.cell? ⟨gb361,0,none⟩ = some (.slice none 0 0):=(zc_ BK361.out 0).trans rfl;have hfz65_0:=zf_ BK361.out 0)|((with_reducible refine gate_callee (f:=43) rfl ?_);refine goesL_ (some 21) rfl rfl Try.func43 (by kernel_rfl) rfl #[.pointer (some ⟨g,0,none⟩),.int .i64 (y358.length : Int)] rfl zq_ ?_;(with_reducible refine (spec_l01Below.calls g s0_0 t352 t353 (y358.length : Int) t362 t363 t364 w0 _ ?side1 ?side2 A5.out).mono ?_);(case side1 => repeat (first|(with_reducible first|exact HI0.out|apply IsS109.alloc|apply IsS109.drewN|apply IsS109.drew|apply IsS109.set_1|apply IsS109.set_2|refine IsS109.far ?_ NB0_342.out _|refine IsS109.far ?_ NB0_354.out _|refine IsS109.far ?_ NB0_361.out _)|exact HI0.out));(case side2 => repeat (first|(with_reducible first|exact HB.out|apply za_|apply zn_|apply zd_|refine zs_ ?_ (IsS109.ge HI0.out)|refine zs_ ?_ GE342.out|refine zs_ ?_ GE354.out|refine zs_ ?_ GE361.out)|exact HB.out));rintro e w66 ⟨rfl,hi,hb,hk⟩;refine ⟨_,rfl,?_⟩;have n0_:=zm_ (KeepBut.blk hk (g':=gb342) (o:=.cells #[.slice none 0 0] 28 (0,0)) zt11_21 NB342_0.out (by simp));have n1_:=zm_ (Kd.R_mono (Kd.R_keep (IsS109.apart (show IsS109 w0 _ g s0_0 t352 t353 from zt11_7) (by (with_reducible repeat (first|apply Kd.R_alloc|apply Kd.R_drewN|apply Kd.R_drew));exact (Kd.R_mono (Kd.R_far (p:=⟨gb361,0,none⟩) (Kd.R_types HO348.out BK361.out (by decide)) (fun _ hk => hk.2) (.slice Ao60 y358.length co60)) (fun _ h_ => h_.1))) (by decide)) hk (fun _ h => h.2)) (fun _ h => h.1));have n2_:=zm_ (Kd.N_mono (Kd.N_keep (Kd.N_mono (ok:=fun k_ => (((((w.heap.size ≤ k_)) ∧ (some k_ ≠ (.slice Ao49 y346.length co49 : Value).ownBlock ∧ (k_ ≠ gb342 ∧ (k_ ≠ g ∧ k_ ≠ gb354)))) ∧ some k_ ≠ (.slice Ao60 y358.length co60 : Value).ownBlock) ∧ k_ ≠ gb361)) (by (with_reducible repeat (first|apply Kd.N_alloc|apply Kd.N_drewN|apply Kd.N_drew));exact (Kd.N_mono (Kd.N_far (p:=⟨gb361,0,none⟩) (Kd.N_mono HO351.out (fun k_ hk => (⟨hk,hk.2⟩ : _ ∧ k_ ≠ gb361))) (fun _ hk => hk.2) (.slice Ao60 y358.length co60)) (fun _ h_ => h_.1))) (fun k_ hk_ => (⟨hk_,hk_.1.1.2.2.2.1⟩ : _ ∧ k_ ≠ g))) hk (fun _ h => h.2)) (fun _ h => h.1));have n3_:=zm_ (KeepBut.blk hk (g':=gb354) (o:=.cells #[.slice Ao52 t349.length co52] 28 (0,0)) zt11_22 NB354_0.out (by simp));have n4_:=zm_ (Kd.N_mono (Kd.N_keep (Kd.N_mono (ok:=fun k_ => ((((w.heap.size ≤ k_)) ∧ (some k_ ≠ (.slice Ao49 y346.length co49 : Value).ownBlock ∧ (k_ ≠ gb342 ∧ (k_ ≠ gb354 ∧ k_ ≠ g)))) ∧ k_ ≠ gb361)) (by (with_reducible repeat (first|apply Kd.N_alloc|apply Kd.N_drewN|apply Kd.N_drew));exact (Kd.N_mono (Kd.N_far (p:=⟨gb361,0,none⟩) (Kd.N_mono HO360.out (fun k_ hk => (⟨hk,hk.2⟩ : _ ∧ k_ ≠ gb361))) (fun _ hk => hk.2) (.slice Ao60 y358.length co60)) (fun _ h_ => h_.1))) (fun k_ hk_ => (⟨hk_,hk_.1.2.2.2.2⟩ : _ ∧ k_ ≠ g))) hk (fun _ h => h.2)) (fun _ h => h.1));have n5_:=zm_ (KeepBut.blk hk (g':=gb361) (o:=.cells #[.slice Ao60 y358.length co60] 28 (0,0)) zt11_18 NB361_0.out (by simp));have n6_:=zm_ (KeepBut.trans zt11_6 hk (.inl rfl));have n7_:=zm_ (hb);have n8_:=zm_ (hi);clear BK342;clear HO348;clear HO351;clear BK354;clear HO360;clear BK361;clear HK;clear HB;clear HI0;have BK342:=n0_;have HO348:=n1_;have HO351:=n2_;have BK354:=n3_;have HO360:=n4_;have BK361:=n5_;have HK:=n6_;have HB:=n7_;have HI0:=n8_;clear n0_ n1_ n2_ n3_ n4_ n5_ n6_ n7_ n8_;(try clear hb);(try clear hb2);(try clear hk);(try clear hi)))
      have n0_:=zm_ (Kd.R_drew HO348.out)
      have n1_:=zm_ (Kd.N_drew HO351.out)
      have n2_:=zm_ (Kd.N_drew HO360.out)
      have n3_:=zm_ (zr_ BK342.out)
      have n4_:=zm_ (zr_ BK354.out)
      have n5_:=zm_ (zr_ BK361.out)
      have n6_:=zm_ (IsS109.drew HI0.out)
      have n7_:=zm_ (keep_drew HK.out)
      have n8_:=zm_ (zd_ HB.out)
      clear HO348
      clear HO351
      clear HO360
      clear BK342
      clear BK354
      clear BK361
      clear HI0
      clear HK
      clear HB
      have HO348:=n0_
      have HO351:=n1_
      have HO360:=n2_
      have BK342:=n3_
      have BK354:=n4_
      have BK361:=n5_
      have HI0:=n6_
      have HK:=n7_
      have HB:=n8_
      clear n0_ n1_ n2_ n3_ n4_ n5_ n6_ n7_ n8_
      refine start_ (n:=9) (S:=fun w' => w'.cell? ⟨gb361,0,none⟩ = some (.slice Ao60 y358.length co60)) (ds:=[8]) #[false,false,false,false,false,false,false,false,false] (by kernel_rfl) rfl rfl ((zc_ BK361.out 0).trans rfl) (fun hHeld => ?_);refine with_tabW spec_l04Any.tab9 spec_l04Any.bits9 (fun HT_ HW_ => ?_)
      generalize w66.drew = w67 at HO348 HO351 HO360 BK342 BK354 BK361 HI0 HK HB hHeld ⊢
      refine pure_ (i:=0) (N:=some 34) (v:=?_) (a':=?_) #[true,false,false,false,false,false,false,false,false] rfl rfl (any_of HT_.out (by kernel_rfl)) (fun _ _ _ h => h) (Or.inl ⟨by rfl,?_⟩) ?_ ?_
      rotate_left
      ·intro w'
       go_simp
       with_reducible rfl
      rotate_left
      ·simp only [Act.put,List.setIfInBounds_toArray,List.set_cons_zero,List.set_cons_succ,i64_w,i32_w,IntKind.wrap_u8]
       rfl
      refine pure_ (i:=2) (N:=some 36) (v:=?_) (a':=?_) #[true,false,true,false,false,false,false,false,false] rfl rfl (any_of HT_.out (by kernel_rfl)) (fun _ _ _ h => h) (Or.inl ⟨by rfl,?_⟩) ?_ ?_
      rotate_left
      ·intro w'
       go_simp
       with_reducible rfl
      rotate_left
      ·simp only [Act.put,List.setIfInBounds_toArray,List.set_cons_zero,List.set_cons_succ,i64_w,i32_w,IntKind.wrap_u8]
       rfl
      refine pure_ (i:=3) (N:=some 37) (v:=?_) (a':=?_) #[true,false,true,true,false,false,false,false,false] rfl rfl (any_of HT_.out (by kernel_rfl)) (fun _ _ _ h => h) (Or.inl ⟨by rfl,?_⟩) ?_ ?_
      rotate_left
      ·intro w'
       go_simp
       with_reducible rfl
      rotate_left
      ·simp only [Act.put,List.setIfInBounds_toArray,List.set_cons_zero,List.set_cons_succ,i64_w,i32_w,IntKind.wrap_u8]
       rfl
      refine take_ (i:=1) (N:=some 35) (v:=?_) (a':=?_) #[true,true,true,true,false,false,false,false,false] rfl rfl (take_ofW HT_.out HW_.out (by kernel_rfl)) (fun _ _ _ h => h) (Or.inl ⟨by rfl,?_⟩) hHeld ?_ ?_
      rotate_left
      ·intro w' s0
       go_simp
       with_reducible rfl
      rotate_left
      ·simp only [Act.put,List.setIfInBounds_toArray,List.set_cons_zero,List.set_cons_succ,i64_w,i32_w,IntKind.wrap_u8]
       rfl
      refine one_ (i:=4) (N:=some 38) #[true,true,true,true,true,false,false,false,false] rfl rfl (one_of HT_.out (by kernel_rfl)) (by decide) (fun K hK => ?_)
      refine Kd.R_lit_step (Kd.int .i64) _ 3 ?hg (N:=38) ?hd (xs:=([(-1),5,99,100] : List Int)) (inner:=[.int .i64 (-1),.int .i64 5,.int .i64 99,.int .i64 100]) (ok:=fun _ => True) (okp:=fun _ => True) ?hr ?hp (fun _ hk => hk) trivial (Below.refl _ _) (Nat.le_refl _) (by simp) ?_;(case hd => rfl);(case hg => rfl);(case hr => first|(go_simp;done)|(go_simp;rfl));(case hp => exact (Reps.one (show Kd.M (Kd.int .i64) _ _ _ (-1) [.int .i64 (-1)] from rfl) (Reps.one (show Kd.M (Kd.int .i64) _ _ _ 5 [.int .i64 5] from rfl) (Reps.one (show Kd.M (Kd.int .i64) _ _ _ 99 [.int .i64 99] from rfl) (Reps.one (show Kd.M (Kd.int .i64) _ _ _ 100 [.int .i64 100] from rfl) (Reps.none _ _))))))
      intro v370 w68 ho69 hb hg_ hnew_
      clear hg_ hnew_
      (first|rw [← Ny369.out] at ho69|(simp only [Int.reduceToNat] at ho69;rw [← Ny369.out] at ho69))
      have n0_:=zm_ (Kd.R_below zt11_8 hb)
      have n1_:=zm_ (Kd.N_elder' zt11_15 (Kd.R_base ho69) hb)
      have n2_:=zm_ (Kd.N_elder' zt11_17 (Kd.R_base ho69) hb)
      have n3_:=zm_ (Kd.R_lower (Kd.R_newM (M:=fun k_ => (w.heap.size ≤ k_)) ho69 (keep_size (w:=w) (g:=g) (row:=none) zt11_6) (fun k_ h_ => h_)) (keep_size (w:=w) (g:=g) (row:=none) zt11_6))
      have n4_:=zm_ (IsS109.below zt11_7 hb)
      have n5_:=zm_ (blk_below (g:=gb342) (o:=.cells #[.slice none 0 0] 28 (0,0)) zt11_4 hb)
      have n6_:=zm_ (blk_below (g:=gb354) (o:=.cells #[.slice Ao52 t349.length co52] 28 (0,0)) zt11_9 hb)
      have n7_:=zm_ (blk_below (g:=gb361) (o:=.cells #[.slice Ao60 y358.length co60] 28 (0,0)) zt11_27 hb)
      have n8_:=zm_ (KeepBut.trans zt11_6 (KeepBut.of_below hb g none) (.inl rfl))
      have n9_:=zm_ (below_step zt11_28 hb)
      clear HO348
      clear HO351
      clear HO360
      clear HI0
      clear BK342
      clear BK354
      clear BK361
      clear HK
      clear HB
      have HO348:=n0_
      have HO351:=n1_
      have HO360:=n2_
      have HO371:=n3_
      have HI0:=n4_
      have BK342:=n5_
      have BK354:=n6_
      have BK361:=n7_
      have HK:=n8_
      have HB:=n9_
      clear n0_ n1_ n2_ n3_ n4_ n5_ n6_ n7_ n8_ n9_
      clear hb ho69
      obtain ⟨Ao70,co70,eo70⟩:=Kd.R_slice HO371.out
      (first|subst eo70|(injection eo70 with f1_ f2_ f3_;have f4_:=f1_.symm;have f5_:=f3_.symm;clear f1_ f2_ f3_;subst f4_;subst f5_))
      refine hK.out _ _ ((zc_ BK361.out 0).trans rfl) (fun hHeld => ?_)
      clear hK K
      refine norm_ (a':=?_) ?_ ?_
      rotate_left
      ·show Act.put _ (some 38) _ = _
       simp only [Act.put,List.setIfInBounds_toArray,List.set_cons_zero,List.set_cons_succ,i64_w,i32_w,IntKind.wrap_u8]
       rfl
      refine one_ (i:=5) (N:=some 39) #[true,true,true,true,true,true,false,false,false] rfl rfl (one_of HT_.out (by kernel_rfl)) (by decide) (fun K hK => ?_)
      refine goes_ Try.func77 (by kernel_rfl) rfl #[.pointer (some ⟨g,0,none⟩),.slice Ao70 y369.length co70] (by rfl) rfl rfl zq_ ?_
      with_reducible refine (spec_l01PickInt.calls g s0_0 t363 t364 _ _ y369 t372 t373 t374 w0 _ ?side1 ?side2 ?side3 ?side4 ?side5 A41.out).mono ?_
      (case side1 => repeat (first|(with_reducible first|exact HI0.out|apply IsS109.alloc|apply IsS109.drewN|apply IsS109.drew|apply IsS109.set_1|apply IsS109.set_2|refine IsS109.far ?_ NB0_342.out _|refine IsS109.far ?_ NB0_354.out _|refine IsS109.far ?_ NB0_361.out _)|exact HI0.out))
      (case side2 => repeat (first|(with_reducible first|exact HB.out|apply za_|apply zn_|apply zd_|refine zs_ ?_ (IsS109.ge HI0.out)|refine zs_ ?_ GE342.out|refine zs_ ?_ GE354.out|refine zs_ ?_ GE361.out)|exact HB.out))
      (case side3 => repeat (first|exact (Kd.R_reads' HO371.out).2.2|(with_reducible refine Kd.C_alloc ?_ _)|(with_reducible refine Kd.C_drewN ?_ _)|(with_reducible refine Kd.C_drew ?_)))
      (case side4 => exact (Kd.R_reads' HO371.out).2.1)
      (case side5 => exact far_slice (IsS109.own_ne HI0.out HO371.out (by decide)))
      rintro e w71 ⟨rfl,hi,hb,hk⟩
      refine ⟨_,rfl,?_⟩
      have n0_:=zm_ (KeepBut.blk hk (g':=gb342) (o:=.cells #[.slice none 0 0] 28 (0,0)) zt11_4 NB342_0.out (by simp))
      have n1_:=zm_ (Kd.R_mono (Kd.R_keep (IsS109.apart (show IsS109 w0 _ g s0_0 t363 t364 from zt11_7) zt11_8 (by decide)) hk (fun _ h => h.2)) (fun _ h => h.1))
      have n2_:=zm_ (Kd.N_mono (Kd.N_keep (Kd.N_mono (ok:=fun k_ => ((((((w.heap.size ≤ k_)) ∧ (some k_ ≠ (.slice Ao49 y346.length co49 : Value).ownBlock ∧ (k_ ≠ gb342 ∧ (k_ ≠ g ∧ k_ ≠ gb354)))) ∧ some k_ ≠ (.slice Ao60 y358.length co60 : Value).ownBlock) ∧ k_ ≠ gb361) ∧ some k_ ≠ (.slice Ao70 y369.length co70 : Value).ownBlock)) zt11_15 (fun k_ hk_ => (⟨hk_,hk_.1.1.1.2.2.2.1⟩ : _ ∧ k_ ≠ g))) hk (fun _ h => h.2)) (fun _ h => h.1))
      have n3_:=zm_ (KeepBut.blk hk (g':=gb354) (o:=.cells #[.slice Ao52 t349.length co52] 28 (0,0)) zt11_9 NB354_0.out (by simp))
      have n4_:=zm_ (Kd.N_mono (Kd.N_keep (Kd.N_mono (ok:=fun k_ => (((((w.heap.size ≤ k_)) ∧ (some k_ ≠ (.slice Ao49 y346.length co49 : Value).ownBlock ∧ (k_ ≠ gb342 ∧ (k_ ≠ gb354 ∧ k_ ≠ g)))) ∧ k_ ≠ gb361) ∧ some k_ ≠ (.slice Ao70 y369.length co70 : Value).ownBlock)) zt11_17 (fun k_ hk_ => (⟨hk_,hk_.1.1.2.2.2.2⟩ : _ ∧ k_ ≠ g))) hk (fun _ h => h.2)) (fun _ h => h.1))
      have n5_:=zm_ (KeepBut.blk hk (g':=gb361) (o:=.cells #[.slice Ao60 y358.length co60] 28 (0,0)) zt11_27 NB361_0.out (by simp))
      have n6_:=zm_ (Kd.R_mono (Kd.R_keep (IsS109.apart (show IsS109 w0 _ g s0_0 t363 t364 from zt11_7) (by (with_reducible repeat (first|apply Kd.R_alloc|apply Kd.R_drewN|apply Kd.R_drew));exact HO371.out) (by decide)) hk (fun _ h => h.2)) (fun _ h => h.1))
      have n7_:=zm_ (KeepBut.trans zt11_6 hk (.inl rfl))
      have n8_:=zm_ (hb)
      have n9_:=zm_ (hi)
      clear BK342
      clear HO348
      clear HO351
      clear BK354
      clear HO360
      clear BK361
      clear HO371
      clear HK
      clear HB
      clear HI0
      have BK342:=n0_
      have HO348:=n1_
      have HO351:=n2_
      have BK354:=n3_
      have HO360:=n4_
      have BK361:=n5_
      have HO371:=n6_
      have HK:=n7_
      have HB:=n8_
      have HI0:=n9_
      clear n0_ n1_ n2_ n3_ n4_ n5_ n6_ n7_ n8_ n9_
      (try clear hb)
      (try clear hb2)
      (try clear hk)
      (try clear hi)
      have p44 : 0 ≤ (t362 : Int):=zo_
      have q44 : (t362 : Int) < ((y358.length : Int) : Int):=zo_
      obtain ⟨go44,co44,eo44,gb44,gl44,cl44,HG44⟩:=Kd.N_form HO360.out (by omega)
      (first|cases eo44|(injection eo44 with ea_ en_ ec_;(first|subst ea_|(injection ea_ with ea_;subst ea_));subst ec_;clear en_))
      have GB44:=zm_ gb44
      have GG44:=zm_ HG44
      clear gb44 gl44 HG44
      obtain ⟨ce44,hcl44,hM44,hcc44,hfr44⟩:=Kd.N_elem HO360.out z34 (t362 : Int) p44 q44
      obtain ⟨ua44_3,uc44_3,rfl,ul44_3,ge44_3⟩:=k34_openF hM44
      have hx44_0 : World.cell? _ ⟨go44,(t362 : Int).toNat * 4,none⟩ = some (.int .i64 ((rd_T34 y358 t362).f0)):=hcc44 0 _ rfl
      have hx44_1 : World.cell? _ ⟨go44,(t362 : Int).toNat * 4 + 1,none⟩ = some (.int .i64 ((rd_T34 y358 t362).f1)):=hcc44 1 _ rfl
      have hx44_2 : World.cell? _ ⟨go44,(t362 : Int).toNat * 4 + 2,none⟩ = some (.string ((rd_T34 y358 t362).f2)):=hcc44 2 _ rfl
      have hx44_3 : World.cell? _ ⟨go44,(t362 : Int).toNat * 4 + 3,none⟩ = some (.slice ua44_3 ((rd_T34 y358 t362).f3).length uc44_3):=hcc44 3 _ rfl
      have hf44_0 : World.frozen? _ ⟨go44,(t362 : Int).toNat * 4,none⟩ = false:=hfr44 0
      have hf44_1 : World.frozen? _ ⟨go44,(t362 : Int).toNat * 4 + 1,none⟩ = false:=hfr44 1
      have hf44_2 : World.frozen? _ ⟨go44,(t362 : Int).toNat * 4 + 2,none⟩ = false:=hfr44 2
      have hf44_3 : World.frozen? _ ⟨go44,(t362 : Int).toNat * 4 + 3,none⟩ = false:=hfr44 3
      clear hcl44 hcc44 hfr44 hM44
      replace p44:=eq_true p44
      replace q44:=eq_true q44
      have HN0_go44:=zm_ (show g ≠ go44 from by have h_:=IsS109.own_neN HI0.out HO360.out (by decide);intro e_;exact h_ (by rw [e_];rfl))
      have HX72:=zm_ (show Kd.N k34 34 _ w.heap.size (fun k_ => (w.heap.size ≤ k_) ∧ some k_ ≠ (.slice Ao49 y346.length co49 : Value).ownBlock ∧ some k_ ≠ (.slice Ao70 y369.length co70 : Value).ownBlock ∧ k_ ≠ gb342 ∧ k_ ≠ gb354 ∧ k_ ≠ gb361 ∧ k_ ≠ g) (.slice (some ⟨go44,0,none⟩) y358.length co60) y358 from (Kd.N_mono (HO360.out) (fun k_ hk => ⟨hk.1.1.1,⟨hk.1.1.2.1,⟨hk.2,⟨hk.1.1.2.2.1,⟨hk.1.1.2.2.2.1,⟨hk.1.2,hk.1.1.2.2.2.2⟩⟩⟩⟩⟩⟩)))
      obtain ⟨ce72,hcl72,hM72,hcc72,hfr72⟩:=Kd.N_elem HX72.out z34 (t362 : Int) (zo_) zt11_24
      obtain ⟨ua72_3,uc72_3,rfl,ul72_3,ge72_3⟩:=k34_openF hM72
      have HP72:=(Kd.N_seg HX72.out (t362 : Int) (zo_) zt11_24 (seg:=[.int .i64 t372]) (j:=1) hcl72 hcc72 (show 2 ≤ 4 from by decide) (x':=(⟨(rd_T34 y358 t362).f0,t372,(rd_T34 y358 t362).f2,(rd_T34 y358 t362).f3⟩ : S34)) (k34_mkF _ _ (⟨(rd_T34 y358 t362).f0,t372,(rd_T34 y358 t362).f2,(rd_T34 y358 t362).f3⟩ : S34) ul72_3 ge72_3) (fun _ hk => hk)).1
      rw [← Ny375.out] at HP72
      have HQ72:=zm_ HP72
      clear hcl72 hcc72 hfr72 hM72 HP72
      refine hK.out _ _ ((zc_ BK361.out 0).trans rfl) (fun hHeld => ?_)
      clear hK K
      refine norm_ (a':=?_) ?_ ?_
      rotate_left
      ·show Act.put _ (some 39) _ = _
       simp only [Act.put,List.setIfInBounds_toArray,List.set_cons_zero,List.set_cons_succ,i64_w,i32_w,IntKind.wrap_u8]
       rfl
      refine pure_ (i:=6) (N:=some 40) (v:=?_) (a':=?_) #[true,true,true,true,true,true,true,false,false] rfl rfl (any_of HT_.out (by kernel_rfl)) (fun _ _ _ h => h) (Or.inl ⟨by rfl,?_⟩) ?_ ?_
      rotate_left
      ·intro w'
       go_simp
       with_reducible rfl
      rotate_left
      ·simp only [Act.put,List.setIfInBounds_toArray,List.set_cons_zero,List.set_cons_succ,i64_w,i32_w,IntKind.wrap_u8]
       rfl
      refine pure_ (i:=7) (N:=some 41) (v:=?_) (a':=?_) #[true,true,true,true,true,true,true,true,false] rfl rfl (any_of HT_.out (by kernel_rfl)) (fun _ _ _ h => h) (Or.inl ⟨by rfl,?_⟩) ?_ ?_
      rotate_left
      ·intro w'
       go_simp
       with_reducible rfl
      rotate_left
      ·simp only [Act.put,List.setIfInBounds_toArray,List.set_cons_zero,List.set_cons_succ,i64_w,i32_w,IntKind.wrap_u8]
       rfl
      refine last_ (i:=8) (N:=none) #[true,true,true,true,true,true,true,true,true] rfl rfl (one_of HT_.out (by kernel_rfl)) (by decide) (fun K hK => ?_)
      refine skip_ (w1:=?_) (by rfl) rfl ?_ ?_
      rotate_left
      ·go_simp
       rfl
      refine hK.out _ _ ?_
      clear hK K
      refine done_ (done_of HT_.out (by kernel_rfl)) ?_
      have n0_ : Aside0 (Kd.R Kd.string 9 (w71.setCell ⟨go44,(t362 : Int).toNat * 4 + 1,none⟩ (.int .i64 t372)) w.heap.size (fun k_ => (w.heap.size ≤ k_)) (.slice Ao49 y346.length co49) y346):=⟨by (with_reducible repeat (first|apply Kd.R_alloc|apply Kd.R_drewN|apply Kd.R_drew));exact Kd.R_mono (Kd.R_far (p:=⟨go44,(t362 : Int).toNat * 4 + 1,none⟩) (Kd.R_types HO348.out GG44.out (by decide)) (fun _ hk => hk.2) (.int .i64 t372)) (fun _ hk => hk.1.1)⟩
      have n1_ : Aside0 (Kd.N k34 34 (w71.setCell ⟨go44,(t362 : Int).toNat * 4 + 1,none⟩ (.int .i64 t372)) w.heap.size (fun k_ => (w.heap.size ≤ k_) ∧ some k_ ≠ (.slice Ao49 y346.length co49 : Value).ownBlock ∧ some k_ ≠ (.slice (some ⟨go44,0,none⟩) y358.length co60 : Value).ownBlock ∧ some k_ ≠ (.slice Ao70 y369.length co70 : Value).ownBlock ∧ k_ ≠ gb342 ∧ k_ ≠ g ∧ k_ ≠ gb354 ∧ k_ ≠ gb361) (.slice Ao52 t349.length co52) t349):=⟨by (with_reducible repeat (first|apply Kd.N_alloc|apply Kd.N_drewN|apply Kd.N_drew));exact Kd.N_mono (Kd.N_far (p:=⟨go44,(t362 : Int).toNat * 4 + 1,none⟩) (Kd.N_mono HO351.out (fun k_ hk => (⟨hk,fun e_ => hk.1.1.2 (by rw [e_];rfl)⟩ : _ ∧ k_ ≠ go44))) (fun _ hk => hk.2) (.int .i64 t372)) (fun _ hk => ⟨hk.1.1.1.1.1,⟨hk.1.1.1.1.2.1,⟨hk.1.1.1.2,⟨hk.1.2,⟨hk.1.1.1.1.2.2.1,⟨hk.1.1.1.1.2.2.2.1,⟨hk.1.1.1.1.2.2.2.2,hk.1.1.2⟩⟩⟩⟩⟩⟩⟩)⟩
      have n2_ : Aside0 (Kd.N k34 34 (w71.setCell ⟨go44,(t362 : Int).toNat * 4 + 1,none⟩ (.int .i64 t372)) w.heap.size (fun k_ => (w.heap.size ≤ k_) ∧ some k_ ≠ (.slice Ao49 y346.length co49 : Value).ownBlock ∧ some k_ ≠ (.slice Ao70 y369.length co70 : Value).ownBlock ∧ k_ ≠ gb342 ∧ k_ ≠ gb354 ∧ k_ ≠ g ∧ k_ ≠ gb361) (.slice (some ⟨go44,0,none⟩) y358.length co60) y375):=⟨by (with_reducible repeat (first|apply Kd.N_alloc|apply Kd.N_drewN|apply Kd.N_drew));exact Kd.N_mono HQ72.out (fun _ hk => ⟨hk.1,⟨hk.2.1,⟨hk.2.2.1,⟨hk.2.2.2.1,⟨hk.2.2.2.2.1,⟨hk.2.2.2.2.2.2,hk.2.2.2.2.2.1⟩⟩⟩⟩⟩⟩)⟩
      have n3_ : Aside0 (Kd.R (Kd.int .i64) 3 (w71.setCell ⟨go44,(t362 : Int).toNat * 4 + 1,none⟩ (.int .i64 t372)) w.heap.size (fun k_ => (w.heap.size ≤ k_)) (.slice Ao70 y369.length co70) y369):=⟨by (with_reducible repeat (first|apply Kd.R_alloc|apply Kd.R_drewN|apply Kd.R_drew));exact Kd.R_mono (Kd.R_far (p:=⟨go44,(t362 : Int).toNat * 4 + 1,none⟩) (Kd.R_types HO371.out GG44.out (by decide)) (fun _ hk => hk.2) (.int .i64 t372)) (fun _ hk => hk.1.1)⟩
      have n4_ : Aside0 ((w71.setCell ⟨go44,(t362 : Int).toNat * 4 + 1,none⟩ (.int .i64 t372)).heap[gb342]? = some (.cells #[.slice none 0 0] 28 (0,0))):=⟨by (with_reducible repeat first|refine zl_ ?_ _|refine zr_ ?_|refine zk_ ?_ _);refine blk_far ?_ zt11_52 _;(with_reducible repeat first|refine zl_ ?_ _|refine zr_ ?_|refine zk_ ?_ _);exact BK342.out⟩
      have n5_ : Aside0 ((w71.setCell ⟨go44,(t362 : Int).toNat * 4 + 1,none⟩ (.int .i64 t372)).heap[gb354]? = some (.cells #[.slice Ao52 t349.length co52] 28 (0,0))):=⟨by (with_reducible repeat first|refine zl_ ?_ _|refine zr_ ?_|refine zk_ ?_ _);refine blk_far ?_ zt11_53 _;(with_reducible repeat first|refine zl_ ?_ _|refine zr_ ?_|refine zk_ ?_ _);exact BK354.out⟩
      have n6_ : Aside0 ((w71.setCell ⟨go44,(t362 : Int).toNat * 4 + 1,none⟩ (.int .i64 t372)).heap[gb361]? = some (.cells #[.slice (some ⟨go44,0,none⟩) y358.length co60] 28 (0,0))):=⟨by (with_reducible repeat first|refine zl_ ?_ _|refine zr_ ?_|refine zk_ ?_ _);refine blk_far ?_ zt11_54 _;(with_reducible repeat first|refine zl_ ?_ _|refine zr_ ?_|refine zk_ ?_ _);exact BK361.out⟩
      have n7_ : Aside0 (IsS109 w0 (w71.setCell ⟨go44,(t362 : Int).toNat * 4 + 1,none⟩ (.int .i64 t372)) g s0_0 t373 t374):=⟨by repeat (first|(with_reducible first|exact HI0.out|apply IsS109.alloc|apply IsS109.drewN|apply IsS109.drew|apply IsS109.set_1|apply IsS109.set_2|refine IsS109.far ?_ HN0_go44.out _|refine IsS109.far ?_ NB0_342.out _|refine IsS109.far ?_ NB0_354.out _|refine IsS109.far ?_ NB0_361.out _)|exact HI0.out)⟩
      have n8_ : Aside0 (KeepBut w (w71.setCell ⟨go44,(t362 : Int).toNat * 4 + 1,none⟩ (.int .i64 t372)) g none):=⟨by repeat (first|(with_reducible first|exact HK.out|apply KeepBut.set_|apply keep_drewN|apply keep_drew|apply keep_alloc|refine keep_far ?_ GB44.out _|refine keep_far ?_ GW342.out _|refine keep_far ?_ GW354.out _|refine keep_far ?_ GW361.out _)|exact HK.out)⟩
      have n9_ : Aside0 (Below w0.heap.size w0 (w71.setCell ⟨go44,(t362 : Int).toNat * 4 + 1,none⟩ (.int .i64 t372))):=⟨by repeat (first|(with_reducible first|exact HB.out|apply za_|apply zn_|apply zd_|refine zs_ ?_ (Nat.le_trans HL.out GB44.out)|refine zs_ ?_ (IsS109.ge HI0.out)|refine zs_ ?_ GE342.out|refine zs_ ?_ GE354.out|refine zs_ ?_ GE361.out)|exact HB.out)⟩
      (try clear HO348)
      (try clear HO351)
      (try clear HO360)
      (try clear HO371)
      (try clear BK342)
      (try clear BK354)
      (try clear BK361)
      (try clear HI0)
      (try clear HK)
      (try clear HB)
      generalize (w71.setCell ⟨go44,(t362 : Int).toNat * 4 + 1,none⟩ (.int .i64 t372)) = w73 at n0_ n1_ n2_ n3_ n4_ n5_ n6_ n7_ n8_ n9_ ⊢
      have HO348:=n0_
      have HO351:=n1_
      have HO360:=n2_
      have HO371:=n3_
      have BK342:=n4_
      have BK354:=n5_
      have BK361:=n6_
      have HI0:=n7_
      have HK:=n8_
      have HB:=n9_
      clear n0_ n1_ n2_ n3_ n4_ n5_ n6_ n7_ n8_ n9_
      have hcz74_0 : w73.cell? ⟨gb361,0,none⟩ = some (.slice (some ⟨go44,0,none⟩) y358.length co60):=(zc_ BK361.out 0).trans rfl
      have hfz74_0:=zf_ BK361.out 0
      have hnb75:=NB342_0.out
      have hnc75:=NB0_342.out
      have hcz76_0 : w73.cell? ⟨gb342,0,none⟩ = some (.slice none 0 0):=(zc_ BK342.out 0).trans rfl
      have hfz76_0:=zf_ BK342.out 0
      try go_wp2
      refine bodyPost_ret (results_cell_row rfl _ _ gb342 28 #[.slice (some ⟨go44,0,none⟩) y358.length co60] (0,0) _ rfl zt11_26 Try.underlying28 rfl (by kernel_rfl)) rfl ?_
      exact ⟨_,by first|rfl|(simp [errW_none,errW_some] <;> rfl)|(simp [*,errW_none,errW_some] <;> rfl),by (with_reducible repeat (first|apply Kd.N_alloc|apply Kd.N_drewN|apply Kd.N_drew));exact Kd.N_mono (Kd.N_far (p:=⟨gb342,0,none⟩) (Kd.N_mono HO360.out (fun k_ hk => (⟨hk,hk.2.2.2.1⟩ : _ ∧ k_ ≠ gb342))) (fun _ hk => hk.2) (.slice (some ⟨go44,0,none⟩) y358.length co60)) (fun _ hk => hk.1.1),by repeat (first|(with_reducible first|exact HI0.out|apply IsS109.alloc|apply IsS109.drewN|apply IsS109.drew|apply IsS109.set_1|apply IsS109.set_2|refine IsS109.far ?_ NB0_342.out _|refine IsS109.far ?_ NB0_354.out _|refine IsS109.far ?_ NB0_361.out _)|exact HI0.out),by repeat (first|(with_reducible first|exact HB.out|apply za_|apply zn_|apply zd_|refine zs_ ?_ (IsS109.ge HI0.out)|refine zs_ ?_ GE342.out|refine zs_ ?_ GE354.out|refine zs_ ?_ GE361.out)|exact HB.out),by repeat (first|(with_reducible first|exact HK.out|apply KeepBut.set_|apply keep_drewN|apply keep_drew|apply keep_alloc|refine keep_far ?_ GW342.out _|refine keep_far ?_ GW354.out _|refine keep_far ?_ GW361.out _)|exact HK.out)⟩
     ·rw [if_neg c43] at H
      exact absurd H (by simp)
    ·rw [if_neg c42] at H
     exact absurd H (by simp)
   ·rw [if_neg c40] at H
    have c40b0 : (t343 == 1) = false:=beq_eq_false_iff_ne.mpr c40
    have c40b1 : (t343 != 1) = true:=bne_iff_ne.mpr c40
    by_cases c77 : t343 = 2
    ·rw [if_pos c77] at H
     have c77b0 : (t343 == 2) = true:=beq_iff_eq.mpr c77
     have c77b1 : (t343 != 2) = false:=bne_eq_false_iff_eq.mpr c77
     clear c77
     obtain ⟨y376,hy376⟩ : ∃ y_ : List Int,y_ = (([(-1),0,t362] : List Int)):=⟨_,rfl⟩
     replace H : ((spec_l01PickInt.f s0_0 t363 t364 y376).bind fun bt379 => (if 0 ≤ t362 then (if t362 < (y358.length : Int) then (some ((y358.set (t362 : Int).toNat (⟨(rd_T34 y358 t362).f0,(rd_T34 y358 t362).f1,(rd_T34 y358 t362).f2,(([bt379.1] : List Int))⟩ : S34)),bt379.2.1,bt379.2.2)) else (none)) else (none))) = some (r1,r2,r3):=by first|(rw [hy376];with_reducible exact H)|(have H2_:=(Option.bind_some _ _).symm.trans H;rw [hy376];with_reducible exact H2_)|(have H2_:=(Option.bind_some _ _).symm.trans H;with_reducible exact H2_)|with_reducible exact H|(rw [hy376];exact H)|exact H
     have Ny376:=zm_ hy376
     clear hy376
     replace H:=Option.bind_eq_some_iff.mp H
     obtain ⟨⟨t379,t380,t381⟩,A780,H⟩:=H
     replace H : (if 0 ≤ t362 then (if t362 < (y358.length : Int) then (some ((y358.set (t362 : Int).toNat (⟨(rd_T34 y358 t362).f0,(rd_T34 y358 t362).f1,(rd_T34 y358 t362).f2,(([t379] : List Int))⟩ : S34)),t380,t381)) else (none)) else (none)) = some (r1,r2,r3):=H
     have A78:=zm_ A780
     clear A780
     obtain ⟨y382,hy382⟩ : ∃ y_ : List Int,y_ = (([t379] : List Int)):=⟨_,rfl⟩
     replace H : (if 0 ≤ t362 then (if t362 < (y358.length : Int) then (some ((y358.set (t362 : Int).toNat (⟨(rd_T34 y358 t362).f0,(rd_T34 y358 t362).f1,(rd_T34 y358 t362).f2,y382⟩ : S34)),t380,t381)) else (none)) else (none)) = some (r1,r2,r3):=by first|(rw [hy382];with_reducible exact H)|(have H2_:=(Option.bind_some _ _).symm.trans H;rw [hy382];with_reducible exact H2_)|(have H2_:=(Option.bind_some _ _).symm.trans H;with_reducible exact H2_)|with_reducible exact H|(rw [hy382];exact H)|exact H
     have Ny382:=zm_ hy382
     clear hy382
     by_cases c79 : 0 ≤ t362
     ·rw [if_pos c79] at H
      have c79b0 : decide (0 ≤ t362) = true:=decide_eq_true c79
      clear c79
      by_cases c80 : t362 < (y358.length : Int)
      ·rw [if_pos c80] at H
       have c80b0 : decide (t362 < (y358.length : Int)) = true:=decide_eq_true c80
       clear c80
       obtain ⟨y385,hy385⟩ : ∃ y_ : List (S34),y_ = (y358.set (t362 : Int).toNat (⟨(rd_T34 y358 t362).f0,(rd_T34 y358 t362).f1,(rd_T34 y358 t362).f2,y382⟩ : S34)):=⟨_,rfl⟩
       replace H : (some (y385,t380,t381)) = some (r1,r2,r3):=by first|(rw [hy385];with_reducible exact H)|(have H2_:=(Option.bind_some _ _).symm.trans H;rw [hy385];with_reducible exact H2_)|(have H2_:=(Option.bind_some _ _).symm.trans H;with_reducible exact H2_)|with_reducible exact H|(rw [hy385];exact H)|exact H
       have Ny385:=zm_ hy385
       clear hy385
       simp only [Option.some.injEq,Prod.mk.injEq] at H
       obtain ⟨rfl,rfl,rfl⟩:=H
       go_enter Try.func47,Try.ntmps47
       try go_wp2_with (first|((with_reducible refine gate_dst (N:=2) rfl ?_);refine box_event ?hg (N:=2) ?hd (cs:=#[.slice none 0 0]) (t:=28) ?hr ?_;(case hd => rfl);(case hg => rfl);(case hr => first|(go_simp;done)|(go_simp;rfl));intro gb342 hg w82 hbox hb;have n0_:=zm_ (IsS109.below zt11_11 hb);have n1_:=zm_ (KeepBut.trans zt11_13 (KeepBut.of_below hb g none) (.inl rfl));have n2_:=zm_ (below_step zt11_29 hb);have n3_:=zm_ (hbox);have n4_:=zm_ ((zt11_30 : w.heap.size ≤ gb342));have n5_:=zm_ ((Nat.le_trans HW0.out (zt11_30 : w.heap.size ≤ gb342) : w0.heap.size ≤ gb342));have n6_:=zm_ ((zt11_34 : g ≠ gb342));have n7_:=zm_ ((zt11_35 : gb342 ≠ g));clear HI0;clear HK;clear HB;have HI0:=n0_;have HK:=n1_;have HB:=n2_;have BK342:=n3_;have GW342:=n4_;have GE342:=n5_;have NB0_342:=n6_;have NB342_0:=n7_;clear n0_ n1_ n2_ n3_ n4_ n5_ n6_ n7_;clear hb hbox hg)|((with_reducible refine gate_callee (f:=43) rfl ?_);refine goesL_ (some 8) rfl rfl Try.func43 (by kernel_rfl) rfl #[.pointer (some ⟨g,0,none⟩),.int .i64 16] rfl zq_ ?_;(with_reducible refine (spec_l01Below.calls g s0_0 s0_1 s0_2 16 t343 t344 t345 w0 _ ?side1 ?side2 A2.out).mono ?_);(case side1 => repeat (first|(with_reducible first|exact HI0.out|apply IsS109.alloc|apply IsS109.drewN|apply IsS109.drew|apply IsS109.set_1|apply IsS109.set_2|refine IsS109.far ?_ NB0_342.out _)|exact HI0.out));(case side2 => repeat (first|(with_reducible first|exact HB.out|apply za_|apply zn_|apply zd_|refine zs_ ?_ (IsS109.ge HI0.out)|refine zs_ ?_ GE342.out)|exact HB.out));rintro e w83 ⟨rfl,hi,hb,hk⟩;refine ⟨_,rfl,?_⟩;have n0_:=zm_ (KeepBut.blk hk (g':=gb342) (o:=.cells #[.slice none 0 0] 28 (0,0)) zt11_4 NB342_0.out (by simp));have n1_:=zm_ (KeepBut.trans zt11_2 hk (.inl rfl));have n2_:=zm_ (hb);have n3_:=zm_ (hi);clear BK342;clear HK;clear HB;clear HI0;have BK342:=n0_;have HK:=n1_;have HB:=n2_;have HI0:=n3_;clear n0_ n1_ n2_ n3_;(try clear hb);(try clear hb2);(try clear hk);(try clear hi))|((with_reducible refine gate_dst (N:=10) rfl ?_);refine Kd.R_lit Kd.string _ 9 ?hg (N:=10) ?hd (xs:=([(⟨#[97]⟩ : ByteArray),(⟨#[98]⟩ : ByteArray),(⟨#[110]⟩ : ByteArray)] : List ByteArray)) (inner:=[.string (⟨#[97]⟩ : ByteArray),.string (⟨#[98]⟩ : ByteArray),.string (⟨#[110]⟩ : ByteArray)]) (ok:=fun _ => True) (okp:=fun _ => True) ?hr ?hp (fun _ hk => hk) trivial (Below.refl _ _) (Nat.le_refl _) (by simp) ?_;(case hd => rfl);(case hg => rfl);(case hr => first|(go_simp;done)|(go_simp;rfl));(case hp => exact (Reps.one (show Kd.M Kd.string _ _ _ (⟨#[97]⟩ : ByteArray) [.string (⟨#[97]⟩ : ByteArray)] from rfl) (Reps.one (show Kd.M Kd.string _ _ _ (⟨#[98]⟩ : ByteArray) [.string (⟨#[98]⟩ : ByteArray)] from rfl) (Reps.one (show Kd.M Kd.string _ _ _ (⟨#[110]⟩ : ByteArray) [.string (⟨#[110]⟩ : ByteArray)] from rfl) (Reps.none _ _)))));intro v347 w84 ho85 hb hg_ hnew_;clear hg_ hnew_;(first|rw [← Ny346.out] at ho85|(simp only [Int.reduceToNat] at ho85;rw [← Ny346.out] at ho85));have n0_:=zm_ (Kd.R_lower (Kd.R_newM (M:=fun k_ => (w.heap.size ≤ k_)) ho85 (keep_size (w:=w) (g:=g) (row:=none) zt11_2) (fun k_ h_ => h_)) (keep_size (w:=w) (g:=g) (row:=none) zt11_2));have n1_:=zm_ (IsS109.below zt11_5 hb);have n2_:=zm_ (blk_below (g:=gb342) (o:=.cells #[.slice none 0 0] 28 (0,0)) zt11_4 hb);have n3_:=zm_ (KeepBut.trans zt11_2 (KeepBut.of_below hb g none) (.inl rfl));have n4_:=zm_ (below_step zt11_16 hb);clear HI0;clear BK342;clear HK;clear HB;have HO348:=n0_;have HI0:=n1_;have BK342:=n2_;have HK:=n3_;have HB:=n4_;clear n0_ n1_ n2_ n3_ n4_;clear hb ho85;obtain ⟨Ao86,co86,eo86⟩:=Kd.R_slice HO348.out;subst eo86)|((with_reducible refine gate_callee (f:=53) rfl ?_);refine goesL_ (some 11) rfl rfl Try.func53 (by kernel_rfl) rfl #[.pointer (some ⟨g,0,none⟩),.slice Ao86 y346.length co86,.int .i64 2] rfl zq_ ?_;(with_reducible refine (spec_l04Expr.calls g s0_0 t344 t345 _ _ y346 2 t349 t352 t353 w0 _ ?side1 ?side2 ?side3 ?side4 ?side5 A3.out).mono ?_);(case side1 => repeat (first|(with_reducible first|exact HI0.out|apply IsS109.alloc|apply IsS109.drewN|apply IsS109.drew|apply IsS109.set_1|apply IsS109.set_2|refine IsS109.far ?_ NB0_342.out _)|exact HI0.out));(case side2 => repeat (first|(with_reducible first|exact HB.out|apply za_|apply zn_|apply zd_|refine zs_ ?_ (IsS109.ge HI0.out)|refine zs_ ?_ GE342.out)|exact HB.out));(case side3 => repeat (first|exact (Kd.R_reads' HO348.out).2.2|(with_reducible refine Kd.C_alloc ?_ _)|(with_reducible refine Kd.C_drewN ?_ _)|(with_reducible refine Kd.C_drew ?_)));(case side4 => exact (Kd.R_reads' HO348.out).2.1);(case side5 => exact far_slice (IsS109.own_ne HI0.out HO348.out (by decide)));rintro e w87 ⟨v350,rfl,ho0,hi,hb,hk⟩;refine ⟨_,rfl,?_⟩;have n0_:=zm_ (KeepBut.blk hk (g':=gb342) (o:=.cells #[.slice none 0 0] 28 (0,0)) zt11_4 NB342_0.out (by simp));have n1_:=zm_ (Kd.R_mono (Kd.R_keep (IsS109.apart (show IsS109 w0 _ g s0_0 t344 t345 from zt11_5) zt11_8 (by decide)) hk (fun _ h => h.2)) (fun _ h => h.1));have n2_:=zm_ (Kd.N_lower (Kd.N_mono (ok':=fun k_ => (w.heap.size ≤ k_) ∧ some k_ ≠ (.slice Ao86 y346.length co86 : Value).ownBlock ∧ k_ ≠ gb342 ∧ k_ ≠ g) (Kd.S_N (Kd.S_bound ho0)) (fun k_ hk_ => ⟨(Nat.le_trans (keep_size (w:=w) (g:=g) (row:=none) zt11_2) hk_.2.1),(Kd.fresh' (Kd.R_lt zt11_8) k_ hk_.2.1),(Kd.freshB (g:=gb342) (o:=.cells #[.slice none 0 0] 28 (0,0)) zt11_4 k_ hk_.2.1),(IsS109.fresh zt11_5 k_ hk_.2.1)⟩)) (keep_size (w:=w) (g:=g) (row:=none) zt11_2));have n3_:=zm_ (KeepBut.trans zt11_2 hk (.inl rfl));have n4_:=zm_ (hb);have n5_:=zm_ (hi);clear BK342;clear HO348;clear HK;clear HB;clear HI0;have BK342:=n0_;have HO348:=n1_;have HO351:=n2_;have HK:=n3_;have HB:=n4_;have HI0:=n5_;clear n0_ n1_ n2_ n3_ n4_ n5_;(try clear hb);(try clear hb2);(try clear hk);(try clear hi);(try clear ho0))|((with_reducible refine gate_dst (N:=4) rfl ?_);refine box_event ?hg (N:=4) ?hd (cs:=#[.slice none 0 0]) (t:=28) ?hr ?_;(case hd => rfl);(case hg => rfl);(case hr => first|(go_simp;done)|(go_simp;rfl));intro gb354 hg w88 hbox hb;have n0_:=zm_ (Kd.R_below zt11_8 hb);have n1_:=zm_ (Kd.N_below (Kd.N_elderB zt11_15 gb354 (Nat.le_of_eq hg.symm)) hb);have n2_:=zm_ (IsS109.below zt11_5 hb);have n3_:=zm_ (blk_below (g:=gb342) (o:=.cells #[.slice none 0 0] 28 (0,0)) zt11_4 hb);have n4_:=zm_ (KeepBut.trans zt11_2 (KeepBut.of_below hb g none) (.inl rfl));have n5_:=zm_ (below_step zt11_16 hb);have n6_:=zm_ (hbox);have n7_:=zm_ ((zt11_31 : w.heap.size ≤ gb354));have n8_:=zm_ ((Nat.le_trans HW0.out (zt11_31 : w.heap.size ≤ gb354) : w0.heap.size ≤ gb354));have n9_:=zm_ ((zt11_19 : gb342 ≠ gb354));have n10_:=zm_ ((zt11_20 : gb354 ≠ gb342));have n11_:=zm_ ((zt11_36 : g ≠ gb354));have n12_:=zm_ ((zt11_37 : gb354 ≠ g));clear HO348;clear HO351;clear HI0;clear BK342;clear HK;clear HB;have HO348:=n0_;have HO351:=n1_;have HI0:=n2_;have BK342:=n3_;have HK:=n4_;have HB:=n5_;have BK354:=n6_;have GW354:=n7_;have GE354:=n8_;have NB342_354:=n9_;have NB354_342:=n10_;have NB0_354:=n11_;have NB354_0:=n12_;clear n0_ n1_ n2_ n3_ n4_ n5_ n6_ n7_ n8_ n9_ n10_ n11_ n12_;clear hb hbox hg;obtain ⟨Ao89,co89,eo89⟩:=Kd.N_slice HO351.out;subst eo89;have hnb90:=NB354_342.out;have hnc90:=NB342_354.out;have hnb91:=NB354_0.out;have hnc91:=NB0_354.out;have hcz92_0 : w88.cell? ⟨gb354,0,none⟩ = some (.slice none 0 0):=(zc_ BK354.out 0).trans rfl;have hfz92_0:=zf_ BK354.out 0)|((with_reducible refine gate_dst (N:=12) rfl ?_);refine Kd.N_lit k34 _ 34 ?hg (N':=12) ?hd (xs:=([] : List (S34))) (inner:=[]) (ok:=(fun k_ => (w.heap.size ≤ k_) ∧ some k_ ≠ (.slice Ao86 y346.length co86 : Value).ownBlock ∧ some k_ ≠ (.slice Ao89 t349.length co89 : Value).ownBlock ∧ k_ ≠ gb342 ∧ k_ ≠ gb354 ∧ k_ ≠ g)) (okp:=(fun k_ => (w.heap.size ≤ k_) ∧ some k_ ≠ (.slice Ao86 y346.length co86 : Value).ownBlock ∧ some k_ ≠ (.slice Ao89 t349.length co89 : Value).ownBlock ∧ k_ ≠ gb342 ∧ k_ ≠ gb354 ∧ k_ ≠ g)) ?hr ?hp (fun _ hk => hk) ((show ∀ k_,(w88.setCell ⟨gb354,0,none⟩ (.slice Ao89 t349.length co89)).heap.size ≤ k_ → (fun k_ => (w.heap.size ≤ k_) ∧ some k_ ≠ (.slice Ao86 y346.length co86 : Value).ownBlock ∧ some k_ ≠ (.slice Ao89 t349.length co89 : Value).ownBlock ∧ k_ ≠ gb342 ∧ k_ ≠ gb354 ∧ k_ ≠ g) k_ from fun k_ hk => ⟨(Nat.le_trans (keep_size (w:=w) (g:=g) (row:=none) zt11_1) hk),Kd.fresh' (Kd.R_lt zt11_51) k_ hk,Kd.fresh' (Kd.N_lt zt11_45) k_ hk,Kd.freshB (g:=gb342) (o:=.cells #[.slice none 0 0] 28 (0,0)) zt11_14 k_ hk,Kd.freshB (g:=gb354) (o:=.cells #[.slice Ao89 t349.length co89] 28 (0,0)) zt11_12 k_ hk,IsS109.fresh zt11_3 k_ hk⟩) _ (Nat.le_refl _)) (Below.refl _ _) (Nat.le_refl _) (by simp) ?_;(case hd => rfl);(case hg => rfl);(case hr => first|(go_simp;done)|(go_simp;rfl));(case hp => exact (Reps.none _ _));intro v356 w93 ho94 hb hg_ hnew_;clear hg_ hnew_;(first|rw [← Ny355.out] at ho94|(simp only [Int.reduceToNat] at ho94;rw [← Ny355.out] at ho94));have n0_:=zm_ (Kd.R_below zt11_51 hb);have n1_:=zm_ (Kd.N_elder' zt11_45 (Kd.N_base ho94) hb);have n2_:=zm_ (Kd.N_lower ho94 (keep_size (w:=w) (g:=g) (row:=none) zt11_1));have n3_:=zm_ (IsS109.below (show IsS109 w0 (w88.setCell ⟨gb354,0,none⟩ (.slice Ao89 t349.length co89)) g s0_0 t352 t353 from zt11_3) hb);have n4_:=zm_ (blk_below (g:=gb342) (o:=.cells #[.slice none 0 0] 28 (0,0)) zt11_14 hb);have n5_:=zm_ (blk_below (g:=gb354) (o:=.cells #[.slice Ao89 t349.length co89] 28 (0,0)) zt11_12 hb);have n6_:=zm_ (KeepBut.trans zt11_1 (KeepBut.of_below hb g none) (.inl rfl));have n7_:=zm_ (below_step zt11_10 hb);clear HO348;clear HO351;clear HI0;clear BK342;clear BK354;clear HK;clear HB;have HO348:=n0_;have HO351:=n1_;have HO357:=n2_;have HI0:=n3_;have BK342:=n4_;have BK354:=n5_;have HK:=n6_;have HB:=n7_;clear n0_ n1_ n2_ n3_ n4_ n5_ n6_ n7_;clear hb ho94;have hcz95_0 : w93.cell? ⟨gb354,0,none⟩ = some (.slice Ao89 t349.length co89):=(zc_ BK354.out 0).trans rfl;have hfz95_0:=zf_ BK354.out 0)|((with_reducible refine gate_builtin (b:=.append) (xs:=#[.tmp 12,.tmp 14]) rfl ?_);at_builtin;refine Kd.N_append_rows k34 w.heap.size rfl (.tmp 12) (.tmp 14) 26 34 (.agg #[(.int .i64 0),(.int .i64 0),(.string ⟨#[]⟩),(.slice none 0 0)]) 56 rfl Try.underlying26 info34 rfl (by decide) (by omega) v356 y355 t349 _ _ _ (fun k_ => (w.heap.size ≤ k_) ∧ some k_ ≠ (.slice Ao86 y346.length co86 : Value).ownBlock ∧ k_ ≠ gb342 ∧ k_ ≠ gb354 ∧ k_ ≠ g) (fun k_ => ((fun k_ => (w.heap.size ≤ k_) ∧ some k_ ≠ (.slice Ao86 y346.length co86 : Value).ownBlock ∧ k_ ≠ gb342 ∧ k_ ≠ gb354 ∧ k_ ≠ g)) k_ ∧ some k_ ≠ (v356 : Value).ownBlock) rfl rfl ?aO ?aR (fun _ hk => hk) ?aF (Below.refl _ _) ?aS ?aL ?_;(case aR => exact (by skip;exact Kd.N_F (Kd.N_mono (ok':=(fun k_ => ((fun k_ => (w.heap.size ≤ k_) ∧ some k_ ≠ (.slice Ao86 y346.length co86 : Value).ownBlock ∧ k_ ≠ gb342 ∧ k_ ≠ gb354 ∧ k_ ≠ g)) k_ ∧ some k_ ≠ (v356 : Value).ownBlock)) (HO351.out) (fun k_ hk => ⟨⟨hk.1.1.1,⟨hk.1.1.2.1,⟨hk.1.1.2.2.1,⟨hk.1.2,hk.1.1.2.2.2⟩⟩⟩⟩,hk.2⟩))));(case aF => exact (fun k_ hk => ⟨(Nat.le_trans (keep_size (w:=w) (g:=g) (row:=none) zt11_1) hk),Kd.fresh' (Kd.R_lt zt11_8) k_ hk,Kd.freshB (g:=gb342) (o:=.cells #[.slice none 0 0] 28 (0,0)) zt11_4 k_ hk,Kd.freshB (g:=gb354) (o:=.cells #[.slice Ao89 t349.length co89] 28 (0,0)) zt11_9 k_ hk,IsS109.fresh zt11_3 k_ hk⟩));(case aO => exact zt11_25);(case aS => exact (keep_size (w:=w) (g:=g) (row:=none) zt11_1));(case aL => have:=LMc4.out;omega);intro v359 w96 ho hb hg hat;rw [← Ny358.out] at ho;have n0_:=zm_ (IsS109.grown zt11_3 hg (IsS109.own_neN HI0.out HO357.out (by decide)));have n1_:=zm_ (blk_grown (g:=gb342) (o:=.cells #[.slice none 0 0] 28 (0,0)) zt11_4 hg (Kd.N_ne HO357.out BK342.out (by decide)));have n2_:=zm_ (Kd.R_over' zt11_8 (Kd.N_typed zt11_33) (by decide) hg);have n3_:=zm_ (Kd.N_afterv (ok:=(fun k_ => (w.heap.size ≤ k_) ∧ some k_ ≠ (.slice Ao86 y346.length co86 : Value).ownBlock ∧ k_ ≠ gb342 ∧ k_ ≠ g ∧ k_ ≠ gb354)) zt11_23 hg hat);have n4_:=zm_ (blk_grown (g:=gb354) (o:=.cells #[.slice Ao89 t349.length co89] 28 (0,0)) zt11_9 hg (Kd.N_ne HO357.out BK354.out (by decide)));have n5_:=zm_ (below_weaken zt11_10 HL.out hb);have n6_:=zm_ (KeepBut.trans zt11_1 (KeepBut.of_grown hg g) (Kd.N_base2 HO357.out));have n7_:=zm_ (ho);clear HI0;clear BK342;clear HO348;clear HO351;clear BK354;clear HB;clear HK;clear HO357;have HI0:=n0_;have BK342:=n1_;have HO348:=n2_;have HO351:=n3_;have BK354:=n4_;have HB:=n5_;have HK:=n6_;have HO360:=n7_;clear n0_ n1_ n2_ n3_ n4_ n5_ n6_ n7_;clear ho hb hg hat;obtain ⟨Ao97,co97,eo97⟩:=Kd.N_slice HO360.out;subst eo97)|((with_reducible refine gate_dst (N:=5) rfl ?_);refine box_event ?hg (N:=5) ?hd (cs:=#[.slice none 0 0]) (t:=28) ?hr ?_;(case hd => rfl);(case hg => rfl);(case hr => first|(go_simp;done)|(go_simp;rfl));intro gb361 hg w98 hbox hb;have n0_:=zm_ (Kd.R_below zt11_8 hb);have n1_:=zm_ (Kd.N_below (Kd.N_elderB zt11_15 gb361 (Nat.le_of_eq hg.symm)) hb);have n2_:=zm_ (Kd.N_below (Kd.N_elderB zt11_17 gb361 (Nat.le_of_eq hg.symm)) hb);have n3_:=zm_ (IsS109.below zt11_3 hb);have n4_:=zm_ (blk_below (g:=gb342) (o:=.cells #[.slice none 0 0] 28 (0,0)) zt11_4 hb);have n5_:=zm_ (blk_below (g:=gb354) (o:=.cells #[.slice Ao89 t349.length co89] 28 (0,0)) zt11_9 hb);have n6_:=zm_ (KeepBut.trans zt11_1 (KeepBut.of_below hb g none) (.inl rfl));have n7_:=zm_ (below_step zt11_10 hb);have n8_:=zm_ (hbox);have n9_:=zm_ ((zt11_32 : w.heap.size ≤ gb361));have n10_:=zm_ ((Nat.le_trans HW0.out (zt11_32 : w.heap.size ≤ gb361) : w0.heap.size ≤ gb361));have n11_:=zm_ ((zt11_19 : gb342 ≠ gb361));have n12_:=zm_ ((zt11_20 : gb361 ≠ gb342));have n13_:=zm_ ((by rw [hg];exact Nat.ne_of_lt (blk_lt (g:=gb354) (o:=.cells #[.slice Ao89 t349.length co89] 28 (0,0)) zt11_9) : gb354 ≠ gb361));have n14_:=zm_ ((by rw [hg];exact Nat.ne_of_gt (blk_lt (g:=gb354) (o:=.cells #[.slice Ao89 t349.length co89] 28 (0,0)) zt11_9) : gb361 ≠ gb354));have n15_:=zm_ ((zt11_38 : g ≠ gb361));have n16_:=zm_ ((zt11_39 : gb361 ≠ g));clear HO348;clear HO351;clear HO360;clear HI0;clear BK342;clear BK354;clear HK;clear HB;have HO348:=n0_;have HO351:=n1_;have HO360:=n2_;have HI0:=n3_;have BK342:=n4_;have BK354:=n5_;have HK:=n6_;have HB:=n7_;have BK361:=n8_;have GW361:=n9_;have GE361:=n10_;have NB342_361:=n11_;have NB361_342:=n12_;have NB354_361:=n13_;have NB361_354:=n14_;have NB0_361:=n15_;have NB361_0:=n16_;clear n0_ n1_ n2_ n3_ n4_ n5_ n6_ n7_ n8_ n9_ n10_ n11_ n12_ n13_ n14_ n15_ n16_;clear hb hbox hg;have hnb99:=NB361_342.out;have hnc99:=NB342_361.out;have hnb100:=NB361_354.out;have hnc100:=NB354_361.out;have hnb101:=NB361_0.out;have hnc101:=NB0_361.out;have hcz102_0 : w98.cell? ⟨gb361,0,none⟩ = some (.slice none 0 0):=(zc_ BK361.out 0).trans rfl;have hfz102_0:=zf_ BK361.out 0)|((with_reducible refine gate_callee (f:=43) rfl ?_);refine goesL_ (some 21) rfl rfl Try.func43 (by kernel_rfl) rfl #[.pointer (some ⟨g,0,none⟩),.int .i64 (y358.length : Int)] rfl zq_ ?_;(with_reducible refine (spec_l01Below.calls g s0_0 t352 t353 (y358.length : Int) t362 t363 t364 w0 _ ?side1 ?side2 A5.out).mono ?_);(case side1 => repeat (first|(with_reducible first|exact HI0.out|apply IsS109.alloc|apply IsS109.drewN|apply IsS109.drew|apply IsS109.set_1|apply IsS109.set_2|refine IsS109.far ?_ NB0_342.out _|refine IsS109.far ?_ NB0_354.out _|refine IsS109.far ?_ NB0_361.out _)|exact HI0.out));(case side2 => repeat (first|(with_reducible first|exact HB.out|apply za_|apply zn_|apply zd_|refine zs_ ?_ (IsS109.ge HI0.out)|refine zs_ ?_ GE342.out|refine zs_ ?_ GE354.out|refine zs_ ?_ GE361.out)|exact HB.out));rintro e w103 ⟨rfl,hi,hb,hk⟩;refine ⟨_,rfl,?_⟩;have n0_:=zm_ (KeepBut.blk hk (g':=gb342) (o:=.cells #[.slice none 0 0] 28 (0,0)) zt11_21 NB342_0.out (by simp));have n1_:=zm_ (Kd.R_mono (Kd.R_keep (IsS109.apart (show IsS109 w0 _ g s0_0 t352 t353 from zt11_7) (by (with_reducible repeat (first|apply Kd.R_alloc|apply Kd.R_drewN|apply Kd.R_drew));exact (Kd.R_mono (Kd.R_far (p:=⟨gb361,0,none⟩) (Kd.R_types HO348.out BK361.out (by decide)) (fun _ hk => hk.2) (.slice Ao97 y358.length co97)) (fun _ h_ => h_.1))) (by decide)) hk (fun _ h => h.2)) (fun _ h => h.1));have n2_:=zm_ (Kd.N_mono (Kd.N_keep (Kd.N_mono (ok:=fun k_ => (((((w.heap.size ≤ k_)) ∧ (some k_ ≠ (.slice Ao86 y346.length co86 : Value).ownBlock ∧ (k_ ≠ gb342 ∧ (k_ ≠ g ∧ k_ ≠ gb354)))) ∧ some k_ ≠ (.slice Ao97 y358.length co97 : Value).ownBlock) ∧ k_ ≠ gb361)) (by (with_reducible repeat (first|apply Kd.N_alloc|apply Kd.N_drewN|apply Kd.N_drew));exact (Kd.N_mono (Kd.N_far (p:=⟨gb361,0,none⟩) (Kd.N_mono HO351.out (fun k_ hk => (⟨hk,hk.2⟩ : _ ∧ k_ ≠ gb361))) (fun _ hk => hk.2) (.slice Ao97 y358.length co97)) (fun _ h_ => h_.1))) (fun k_ hk_ => (⟨hk_,hk_.1.1.2.2.2.1⟩ : _ ∧ k_ ≠ g))) hk (fun _ h => h.2)) (fun _ h => h.1));have n3_:=zm_ (KeepBut.blk hk (g':=gb354) (o:=.cells #[.slice Ao89 t349.length co89] 28 (0,0)) zt11_22 NB354_0.out (by simp));have n4_:=zm_ (Kd.N_mono (Kd.N_keep (Kd.N_mono (ok:=fun k_ => ((((w.heap.size ≤ k_)) ∧ (some k_ ≠ (.slice Ao86 y346.length co86 : Value).ownBlock ∧ (k_ ≠ gb342 ∧ (k_ ≠ gb354 ∧ k_ ≠ g)))) ∧ k_ ≠ gb361)) (by (with_reducible repeat (first|apply Kd.N_alloc|apply Kd.N_drewN|apply Kd.N_drew));exact (Kd.N_mono (Kd.N_far (p:=⟨gb361,0,none⟩) (Kd.N_mono HO360.out (fun k_ hk => (⟨hk,hk.2⟩ : _ ∧ k_ ≠ gb361))) (fun _ hk => hk.2) (.slice Ao97 y358.length co97)) (fun _ h_ => h_.1))) (fun k_ hk_ => (⟨hk_,hk_.1.2.2.2.2⟩ : _ ∧ k_ ≠ g))) hk (fun _ h => h.2)) (fun _ h => h.1));have n5_:=zm_ (KeepBut.blk hk (g':=gb361) (o:=.cells #[.slice Ao97 y358.length co97] 28 (0,0)) zt11_18 NB361_0.out (by simp));have n6_:=zm_ (KeepBut.trans zt11_6 hk (.inl rfl));have n7_:=zm_ (hb);have n8_:=zm_ (hi);clear BK342;clear HO348;clear HO351;clear BK354;clear HO360;clear BK361;clear HK;clear HB;clear HI0;have BK342:=n0_;have HO348:=n1_;have HO351:=n2_;have BK354:=n3_;have HO360:=n4_;have BK361:=n5_;have HK:=n6_;have HB:=n7_;have HI0:=n8_;clear n0_ n1_ n2_ n3_ n4_ n5_ n6_ n7_ n8_;(try clear hb);(try clear hb2);(try clear hk);(try clear hi)))
       have n0_:=zm_ (Kd.R_drew HO348.out)
       have n1_:=zm_ (Kd.N_drew HO351.out)
       have n2_:=zm_ (Kd.N_drew HO360.out)
       have n3_:=zm_ (zr_ BK342.out)
       have n4_:=zm_ (zr_ BK354.out)
       have n5_:=zm_ (zr_ BK361.out)
       have n6_:=zm_ (IsS109.drew HI0.out)
       have n7_:=zm_ (keep_drew HK.out)
       have n8_:=zm_ (zd_ HB.out)
       clear HO348
       clear HO351
       clear HO360
       clear BK342
       clear BK354
       clear BK361
       clear HI0
       clear HK
       clear HB
       have HO348:=n0_
       have HO351:=n1_
       have HO360:=n2_
       have BK342:=n3_
       have BK354:=n4_
       have BK361:=n5_
       have HI0:=n6_
       have HK:=n7_
       have HB:=n8_
       clear n0_ n1_ n2_ n3_ n4_ n5_ n6_ n7_ n8_
       refine start_ (n:=11) (S:=fun w' => w'.cell? ⟨gb361,0,none⟩ = some (.slice Ao97 y358.length co97)) (ds:=[10]) #[false,false,false,false,false,false,false,false,false,false,false] (by kernel_rfl) rfl rfl ((zc_ BK361.out 0).trans rfl) (fun hHeld => ?_);refine with_tabW spec_l04Any.tab11 spec_l04Any.bits11 (fun HT_ HW_ => ?_)
       generalize w103.drew = w104 at HO348 HO351 HO360 BK342 BK354 BK361 HI0 HK HB hHeld ⊢
       refine pure_ (i:=0) (N:=some 44) (v:=?_) (a':=?_) #[true,false,false,false,false,false,false,false,false,false,false] rfl rfl (any_of HT_.out (by kernel_rfl)) (fun _ _ _ h => h) (Or.inl ⟨by rfl,?_⟩) ?_ ?_
       rotate_left
       ·intro w'
        go_simp
        with_reducible rfl
       rotate_left
       ·simp only [Act.put,List.setIfInBounds_toArray,List.set_cons_zero,List.set_cons_succ,i64_w,i32_w,IntKind.wrap_u8]
        rfl
       refine pure_ (i:=2) (N:=some 46) (v:=?_) (a':=?_) #[true,false,true,false,false,false,false,false,false,false,false] rfl rfl (any_of HT_.out (by kernel_rfl)) (fun _ _ _ h => h) (Or.inl ⟨by rfl,?_⟩) ?_ ?_
       rotate_left
       ·intro w'
        go_simp
        with_reducible rfl
       rotate_left
       ·simp only [Act.put,List.setIfInBounds_toArray,List.set_cons_zero,List.set_cons_succ,i64_w,i32_w,IntKind.wrap_u8]
        rfl
       refine pure_ (i:=3) (N:=some 47) (v:=?_) (a':=?_) #[true,false,true,true,false,false,false,false,false,false,false] rfl rfl (any_of HT_.out (by kernel_rfl)) (fun _ _ _ h => h) (Or.inl ⟨by rfl,?_⟩) ?_ ?_
       rotate_left
       ·intro w'
        go_simp
        with_reducible rfl
       rotate_left
       ·simp only [Act.put,List.setIfInBounds_toArray,List.set_cons_zero,List.set_cons_succ,i64_w,i32_w,IntKind.wrap_u8]
        rfl
       refine pure_ (i:=4) (N:=some 48) (v:=?_) (a':=?_) #[true,false,true,true,true,false,false,false,false,false,false] rfl rfl (any_of HT_.out (by kernel_rfl)) (fun _ _ _ h => h) (Or.inl ⟨by rfl,?_⟩) ?_ ?_
       rotate_left
       ·intro w'
        go_simp
        with_reducible rfl
       rotate_left
       ·simp only [Act.put,List.setIfInBounds_toArray,List.set_cons_zero,List.set_cons_succ,i64_w,i32_w,IntKind.wrap_u8]
        rfl
       refine take_ (i:=1) (N:=some 45) (v:=?_) (a':=?_) #[true,true,true,true,true,false,false,false,false,false,false] rfl rfl (take_ofW HT_.out HW_.out (by kernel_rfl)) (fun _ _ _ h => h) (Or.inl ⟨by rfl,?_⟩) hHeld ?_ ?_
       rotate_left
       ·intro w' s0
        go_simp
        with_reducible rfl
       rotate_left
       ·simp only [Act.put,List.setIfInBounds_toArray,List.set_cons_zero,List.set_cons_succ,i64_w,i32_w,IntKind.wrap_u8]
        rfl
       refine one_ (i:=5) (N:=some 49) #[true,true,true,true,true,true,false,false,false,false,false] rfl rfl (one_of HT_.out (by kernel_rfl)) (by decide) (fun K hK => ?_)
       refine Kd.R_lit_step (Kd.int .i64) _ 3 ?hg (N:=49) ?hd (xs:=([(-1),0,t362] : List Int)) (inner:=[.int .i64 (-1),.int .i64 0,.int .i64 t362]) (ok:=fun _ => True) (okp:=fun _ => True) ?hr ?hp (fun _ hk => hk) trivial (Below.refl _ _) (Nat.le_refl _) (by simp) ?_;(case hd => rfl);(case hg => rfl);(case hr => first|(go_simp;done)|(go_simp;rfl));(case hp => exact (Reps.one (show Kd.M (Kd.int .i64) _ _ _ (-1) [.int .i64 (-1)] from rfl) (Reps.one (show Kd.M (Kd.int .i64) _ _ _ 0 [.int .i64 0] from rfl) (Reps.one (show Kd.M (Kd.int .i64) _ _ _ t362 [.int .i64 t362] from rfl) (Reps.none _ _)))))
       intro v377 w105 ho106 hb hg_ hnew_
       clear hg_ hnew_
       (first|rw [← Ny376.out] at ho106|(simp only [Int.reduceToNat] at ho106;rw [← Ny376.out] at ho106))
       have n0_:=zm_ (Kd.R_below zt11_8 hb)
       have n1_:=zm_ (Kd.N_elder' zt11_15 (Kd.R_base ho106) hb)
       have n2_:=zm_ (Kd.N_elder' zt11_17 (Kd.R_base ho106) hb)
       have n3_:=zm_ (Kd.R_lower (Kd.R_newM (M:=fun k_ => (w.heap.size ≤ k_)) ho106 (keep_size (w:=w) (g:=g) (row:=none) zt11_6) (fun k_ h_ => h_)) (keep_size (w:=w) (g:=g) (row:=none) zt11_6))
       have n4_:=zm_ (IsS109.below zt11_7 hb)
       have n5_:=zm_ (blk_below (g:=gb342) (o:=.cells #[.slice none 0 0] 28 (0,0)) zt11_4 hb)
       have n6_:=zm_ (blk_below (g:=gb354) (o:=.cells #[.slice Ao89 t349.length co89] 28 (0,0)) zt11_9 hb)
       have n7_:=zm_ (blk_below (g:=gb361) (o:=.cells #[.slice Ao97 y358.length co97] 28 (0,0)) zt11_27 hb)
       have n8_:=zm_ (KeepBut.trans zt11_6 (KeepBut.of_below hb g none) (.inl rfl))
       have n9_:=zm_ (below_step zt11_28 hb)
       clear HO348
       clear HO351
       clear HO360
       clear HI0
       clear BK342
       clear BK354
       clear BK361
       clear HK
       clear HB
       have HO348:=n0_
       have HO351:=n1_
       have HO360:=n2_
       have HO378:=n3_
       have HI0:=n4_
       have BK342:=n5_
       have BK354:=n6_
       have BK361:=n7_
       have HK:=n8_
       have HB:=n9_
       clear n0_ n1_ n2_ n3_ n4_ n5_ n6_ n7_ n8_ n9_
       clear hb ho106
       obtain ⟨Ao107,co107,eo107⟩:=Kd.R_slice HO378.out
       (first|subst eo107|(injection eo107 with f1_ f2_ f3_;have f4_:=f1_.symm;have f5_:=f3_.symm;clear f1_ f2_ f3_;subst f4_;subst f5_))
       refine hK.out _ _ ((zc_ BK361.out 0).trans rfl) (fun hHeld => ?_)
       clear hK K
       refine norm_ (a':=?_) ?_ ?_
       rotate_left
       ·show Act.put _ (some 49) _ = _
        simp only [Act.put,List.setIfInBounds_toArray,List.set_cons_zero,List.set_cons_succ,i64_w,i32_w,IntKind.wrap_u8]
        rfl
       refine one_ (i:=6) (N:=some 50) #[true,true,true,true,true,true,true,false,false,false,false] rfl rfl (one_of HT_.out (by kernel_rfl)) (by decide) (fun K hK => ?_)
       refine goes_ Try.func77 (by kernel_rfl) rfl #[.pointer (some ⟨g,0,none⟩),.slice Ao107 y376.length co107] (by rfl) rfl rfl zq_ ?_
       with_reducible refine (spec_l01PickInt.calls g s0_0 t363 t364 _ _ y376 t379 t380 t381 w0 _ ?side1 ?side2 ?side3 ?side4 ?side5 A78.out).mono ?_
       (case side1 => repeat (first|(with_reducible first|exact HI0.out|apply IsS109.alloc|apply IsS109.drewN|apply IsS109.drew|apply IsS109.set_1|apply IsS109.set_2|refine IsS109.far ?_ NB0_342.out _|refine IsS109.far ?_ NB0_354.out _|refine IsS109.far ?_ NB0_361.out _)|exact HI0.out))
       (case side2 => repeat (first|(with_reducible first|exact HB.out|apply za_|apply zn_|apply zd_|refine zs_ ?_ (IsS109.ge HI0.out)|refine zs_ ?_ GE342.out|refine zs_ ?_ GE354.out|refine zs_ ?_ GE361.out)|exact HB.out))
       (case side3 => repeat (first|exact (Kd.R_reads' HO378.out).2.2|(with_reducible refine Kd.C_alloc ?_ _)|(with_reducible refine Kd.C_drewN ?_ _)|(with_reducible refine Kd.C_drew ?_)))
       (case side4 => exact (Kd.R_reads' HO378.out).2.1)
       (case side5 => exact far_slice (IsS109.own_ne HI0.out HO378.out (by decide)))
       rintro e w108 ⟨rfl,hi,hb,hk⟩
       refine ⟨_,rfl,?_⟩
       have n0_:=zm_ (KeepBut.blk hk (g':=gb342) (o:=.cells #[.slice none 0 0] 28 (0,0)) zt11_4 NB342_0.out (by simp))
       have n1_:=zm_ (Kd.R_mono (Kd.R_keep (IsS109.apart (show IsS109 w0 _ g s0_0 t363 t364 from zt11_7) zt11_8 (by decide)) hk (fun _ h => h.2)) (fun _ h => h.1))
       have n2_:=zm_ (Kd.N_mono (Kd.N_keep (Kd.N_mono (ok:=fun k_ => ((((((w.heap.size ≤ k_)) ∧ (some k_ ≠ (.slice Ao86 y346.length co86 : Value).ownBlock ∧ (k_ ≠ gb342 ∧ (k_ ≠ g ∧ k_ ≠ gb354)))) ∧ some k_ ≠ (.slice Ao97 y358.length co97 : Value).ownBlock) ∧ k_ ≠ gb361) ∧ some k_ ≠ (.slice Ao107 y376.length co107 : Value).ownBlock)) zt11_15 (fun k_ hk_ => (⟨hk_,hk_.1.1.1.2.2.2.1⟩ : _ ∧ k_ ≠ g))) hk (fun _ h => h.2)) (fun _ h => h.1))
       have n3_:=zm_ (KeepBut.blk hk (g':=gb354) (o:=.cells #[.slice Ao89 t349.length co89] 28 (0,0)) zt11_9 NB354_0.out (by simp))
       have n4_:=zm_ (Kd.N_mono (Kd.N_keep (Kd.N_mono (ok:=fun k_ => (((((w.heap.size ≤ k_)) ∧ (some k_ ≠ (.slice Ao86 y346.length co86 : Value).ownBlock ∧ (k_ ≠ gb342 ∧ (k_ ≠ gb354 ∧ k_ ≠ g)))) ∧ k_ ≠ gb361) ∧ some k_ ≠ (.slice Ao107 y376.length co107 : Value).ownBlock)) zt11_17 (fun k_ hk_ => (⟨hk_,hk_.1.1.2.2.2.2⟩ : _ ∧ k_ ≠ g))) hk (fun _ h => h.2)) (fun _ h => h.1))
       have n5_:=zm_ (KeepBut.blk hk (g':=gb361) (o:=.cells #[.slice Ao97 y358.length co97] 28 (0,0)) zt11_27 NB361_0.out (by simp))
       have n6_:=zm_ (Kd.R_mono (Kd.R_keep (IsS109.apart (show IsS109 w0 _ g s0_0 t363 t364 from zt11_7) (by (with_reducible repeat (first|apply Kd.R_alloc|apply Kd.R_drewN|apply Kd.R_drew));exact HO378.out) (by decide)) hk (fun _ h => h.2)) (fun _ h => h.1))
       have n7_:=zm_ (KeepBut.trans zt11_6 hk (.inl rfl))
       have n8_:=zm_ (hb)
       have n9_:=zm_ (hi)
       clear BK342
       clear HO348
       clear HO351
       clear BK354
       clear HO360
       clear BK361
       clear HO378
       clear HK
       clear HB
       clear HI0
       have BK342:=n0_
       have HO348:=n1_
       have HO351:=n2_
       have BK354:=n3_
       have HO360:=n4_
       have BK361:=n5_
       have HO378:=n6_
       have HK:=n7_
       have HB:=n8_
       have HI0:=n9_
       clear n0_ n1_ n2_ n3_ n4_ n5_ n6_ n7_ n8_ n9_
       (try clear hb)
       (try clear hb2)
       (try clear hk)
       (try clear hi)
       refine hK.out _ _ ((zc_ BK361.out 0).trans rfl) (fun hHeld => ?_)
       clear hK K
       refine norm_ (a':=?_) ?_ ?_
       rotate_left
       ·show Act.put _ (some 50) _ = _
        simp only [Act.put,List.setIfInBounds_toArray,List.set_cons_zero,List.set_cons_succ,i64_w,i32_w,IntKind.wrap_u8]
        rfl
       refine one_ (i:=7) (N:=some 51) #[true,true,true,true,true,true,true,true,false,false,false] rfl rfl (one_of HT_.out (by kernel_rfl)) (by decide) (fun K hK => ?_)
       refine Kd.R_lit_step (Kd.int .i64) _ 3 ?hg (N:=51) ?hd (xs:=([t379] : List Int)) (inner:=[.int .i64 t379]) (ok:=fun _ => True) (okp:=fun _ => True) ?hr ?hp (fun _ hk => hk) trivial (Below.refl _ _) (Nat.le_refl _) (by simp) ?_;(case hd => rfl);(case hg => rfl);(case hr => first|(go_simp;done)|(go_simp;rfl));(case hp => exact (Reps.one (show Kd.M (Kd.int .i64) _ _ _ t379 [.int .i64 t379] from rfl) (Reps.none _ _)))
       intro v383 w109 ho110 hb hg_ hnew_
       clear hg_ hnew_
       (first|rw [← Ny382.out] at ho110|(simp only [Int.reduceToNat] at ho110;rw [← Ny382.out] at ho110))
       have n0_:=zm_ (Kd.R_below zt11_8 hb)
       have n1_:=zm_ (Kd.N_elder' zt11_15 (Kd.R_base ho110) hb)
       have n2_:=zm_ (Kd.N_elder' zt11_17 (Kd.R_base ho110) hb)
       have n3_:=zm_ (Kd.R_elder' (by (with_reducible repeat (first|apply Kd.R_alloc|apply Kd.R_drewN|apply Kd.R_drew));exact HO378.out) (Kd.R_base ho110) hb)
       have n4_:=zm_ (Kd.R_lower (Kd.R_new' (Kd.R_newM (M:=fun k_ => (w.heap.size ≤ k_)) ho110 (keep_size (w:=w) (g:=g) (row:=none) zt11_6) (fun k_ h_ => h_)) (Kd.R_lt (by (with_reducible repeat (first|apply Kd.R_alloc|apply Kd.R_drewN|apply Kd.R_drew));exact HO378.out))) (keep_size (w:=w) (g:=g) (row:=none) zt11_6))
       have n5_:=zm_ (IsS109.below zt11_7 hb)
       have n6_:=zm_ (blk_below (g:=gb342) (o:=.cells #[.slice none 0 0] 28 (0,0)) zt11_4 hb)
       have n7_:=zm_ (blk_below (g:=gb354) (o:=.cells #[.slice Ao89 t349.length co89] 28 (0,0)) zt11_9 hb)
       have n8_:=zm_ (blk_below (g:=gb361) (o:=.cells #[.slice Ao97 y358.length co97] 28 (0,0)) zt11_27 hb)
       have n9_:=zm_ (KeepBut.trans zt11_6 (KeepBut.of_below hb g none) (.inl rfl))
       have n10_:=zm_ (below_step zt11_28 hb)
       clear HO348
       clear HO351
       clear HO360
       clear HO378
       clear HI0
       clear BK342
       clear BK354
       clear BK361
       clear HK
       clear HB
       have HO348:=n0_
       have HO351:=n1_
       have HO360:=n2_
       have HO378:=n3_
       have HO384:=n4_
       have HI0:=n5_
       have BK342:=n6_
       have BK354:=n7_
       have BK361:=n8_
       have HK:=n9_
       have HB:=n10_
       clear n0_ n1_ n2_ n3_ n4_ n5_ n6_ n7_ n8_ n9_ n10_
       clear hb ho110
       have p81 : 0 ≤ (t362 : Int):=zo_
       have q81 : (t362 : Int) < ((y358.length : Int) : Int):=zo_
       obtain ⟨go81,co81,eo81,gb81,gl81,cl81,HG81⟩:=Kd.N_form HO360.out (by omega)
       (first|cases eo81|(injection eo81 with ea_ en_ ec_;(first|subst ea_|(injection ea_ with ea_;subst ea_));subst ec_;clear en_))
       have GB81:=zm_ gb81
       have GG81:=zm_ HG81
       clear gb81 gl81 HG81
       obtain ⟨ce81,hcl81,hM81,hcc81,hfr81⟩:=Kd.N_elem HO360.out z34 (t362 : Int) p81 q81
       obtain ⟨ua81_3,uc81_3,rfl,ul81_3,ge81_3⟩:=k34_openF hM81
       have hx81_0 : World.cell? _ ⟨go81,(t362 : Int).toNat * 4,none⟩ = some (.int .i64 ((rd_T34 y358 t362).f0)):=hcc81 0 _ rfl
       have hx81_1 : World.cell? _ ⟨go81,(t362 : Int).toNat * 4 + 1,none⟩ = some (.int .i64 ((rd_T34 y358 t362).f1)):=hcc81 1 _ rfl
       have hx81_2 : World.cell? _ ⟨go81,(t362 : Int).toNat * 4 + 2,none⟩ = some (.string ((rd_T34 y358 t362).f2)):=hcc81 2 _ rfl
       have hx81_3 : World.cell? _ ⟨go81,(t362 : Int).toNat * 4 + 3,none⟩ = some (.slice ua81_3 ((rd_T34 y358 t362).f3).length uc81_3):=hcc81 3 _ rfl
       have hf81_0 : World.frozen? _ ⟨go81,(t362 : Int).toNat * 4,none⟩ = false:=hfr81 0
       have hf81_1 : World.frozen? _ ⟨go81,(t362 : Int).toNat * 4 + 1,none⟩ = false:=hfr81 1
       have hf81_2 : World.frozen? _ ⟨go81,(t362 : Int).toNat * 4 + 2,none⟩ = false:=hfr81 2
       have hf81_3 : World.frozen? _ ⟨go81,(t362 : Int).toNat * 4 + 3,none⟩ = false:=hfr81 3
       clear hcl81 hcc81 hfr81 hM81
       replace p81:=eq_true p81
       replace q81:=eq_true q81
       have HN0_go81:=zm_ (show g ≠ go81 from by have h_:=IsS109.own_neN HI0.out HO360.out (by decide);intro e_;exact h_ (by rw [e_];rfl))
       obtain ⟨Av_,cv_,ev_⟩:=Kd.R_slice HO384.out
       subst ev_
       have HX111:=zm_ (show Kd.N k34 34 _ w.heap.size (fun k_ => (w.heap.size ≤ k_) ∧ some k_ ≠ (.slice Ao86 y346.length co86 : Value).ownBlock ∧ some k_ ≠ (.slice Ao107 y376.length co107 : Value).ownBlock ∧ some k_ ≠ ((.slice Av_ y382.length cv_) : Value).ownBlock ∧ k_ ≠ gb342 ∧ k_ ≠ gb354 ∧ k_ ≠ gb361 ∧ k_ ≠ g) (.slice (some ⟨go81,0,none⟩) y358.length co97) y358 from (Kd.N_mono (HO360.out) (fun k_ hk => ⟨hk.1.1.1.1,⟨hk.1.1.1.2.1,⟨hk.1.2,⟨hk.2,⟨hk.1.1.1.2.2.1,⟨hk.1.1.1.2.2.2.1,⟨hk.1.1.2,hk.1.1.1.2.2.2.2⟩⟩⟩⟩⟩⟩⟩)))
       replace HX111:=zm_ (show Kd.N k34 34 _ w.heap.size (fun k_ => (w.heap.size ≤ k_) ∧ some k_ ≠ (.slice Ao86 y346.length co86 : Value).ownBlock ∧ some k_ ≠ (.slice Ao107 y376.length co107 : Value).ownBlock ∧ k_ ≠ gb342 ∧ k_ ≠ gb354 ∧ k_ ≠ gb361 ∧ k_ ≠ g) (.slice (some ⟨go81,0,none⟩) y358.length co97) y358 from Kd.N_mono HX111.out (fun k_ hk => ⟨hk.1,⟨hk.2.1,⟨hk.2.2.1,⟨hk.2.2.2.2.1,⟨hk.2.2.2.2.2.1,⟨hk.2.2.2.2.2.2.1,hk.2.2.2.2.2.2.2⟩⟩⟩⟩⟩⟩))
       obtain ⟨ce111,hcl111,hM111,hcc111,hfr111⟩:=Kd.N_elem HX111.out z34 (t362 : Int) (zo_) zt11_24
       obtain ⟨ua111_3,uc111_3,rfl,ul111_3,ge111_3⟩:=k34_openF hM111
       have HP111:=(Kd.N_seg HX111.out (t362 : Int) (zo_) zt11_24 (seg:=[(.slice Av_ y382.length cv_)]) (j:=3) hcl111 hcc111 (show 4 ≤ 4 from by decide) (x':=(⟨(rd_T34 y358 t362).f0,(rd_T34 y358 t362).f1,(rd_T34 y358 t362).f2,y382⟩ : S34)) (k34_mkF _ _ (⟨(rd_T34 y358 t362).f0,(rd_T34 y358 t362).f1,(rd_T34 y358 t362).f2,y382⟩ : S34) (Kd.R_reads' (Kd.R_mono (ok':=(fun k_ => ((fun k_ => (w.heap.size ≤ k_) ∧ some k_ ≠ (.slice Ao86 y346.length co86 : Value).ownBlock ∧ some k_ ≠ (.slice Ao107 y376.length co107 : Value).ownBlock ∧ k_ ≠ gb342 ∧ k_ ≠ gb354 ∧ k_ ≠ gb361 ∧ k_ ≠ g)) k_ ∧ k_ ≠ go81)) (IsS109.apart HI0.out (Kd.R_types (Kd.R_types (Kd.R_types (Kd.R_apart' (Kd.R_apart' (HO384.out) (Kd.R_typed HO348.out) (by decide)) (Kd.N_typed HO360.out) (by decide)) BK342.out (by decide)) BK354.out (by decide)) BK361.out (by decide)) (by decide)) (fun k_ hk => ⟨⟨hk.1.1.1.1.1.1.1.1,⟨hk.1.1.1.1.1.2,⟨hk.1.1.1.1.1.1.2,⟨hk.1.1.1.2,⟨hk.1.1.2,⟨hk.1.2,hk.2⟩⟩⟩⟩⟩⟩,fun e_ => (hk.1.1.1.1.2) (by rw [e_];rfl)⟩))).2.1 (Kd.R_F (Kd.R_mono (ok':=(fun k_ => ((fun k_ => (w.heap.size ≤ k_) ∧ some k_ ≠ (.slice Ao86 y346.length co86 : Value).ownBlock ∧ some k_ ≠ (.slice Ao107 y376.length co107 : Value).ownBlock ∧ k_ ≠ gb342 ∧ k_ ≠ gb354 ∧ k_ ≠ gb361 ∧ k_ ≠ g)) k_ ∧ k_ ≠ go81)) (IsS109.apart HI0.out (Kd.R_types (Kd.R_types (Kd.R_types (Kd.R_apart' (Kd.R_apart' (HO384.out) (Kd.R_typed HO348.out) (by decide)) (Kd.N_typed HO360.out) (by decide)) BK342.out (by decide)) BK354.out (by decide)) BK361.out (by decide)) (by decide)) (fun k_ hk => ⟨⟨hk.1.1.1.1.1.1.1.1,⟨hk.1.1.1.1.1.2,⟨hk.1.1.1.1.1.1.2,⟨hk.1.1.1.2,⟨hk.1.1.2,⟨hk.1.2,hk.2⟩⟩⟩⟩⟩⟩,fun e_ => (hk.1.1.1.1.2) (by rw [e_];rfl)⟩)))) (fun _ hk => hk)).1
       rw [← Ny385.out] at HP111
       have HQ111:=zm_ HP111
       clear hcl111 hcc111 hfr111 hM111 HP111
       refine hK.out _ _ ((zc_ BK361.out 0).trans rfl) (fun hHeld => ?_)
       clear hK K
       refine norm_ (a':=?_) ?_ ?_
       rotate_left
       ·show Act.put _ (some 51) _ = _
        simp only [Act.put,List.setIfInBounds_toArray,List.set_cons_zero,List.set_cons_succ,i64_w,i32_w,IntKind.wrap_u8]
        rfl
       refine pure_ (i:=8) (N:=some 52) (v:=?_) (a':=?_) #[true,true,true,true,true,true,true,true,true,false,false] rfl rfl (any_of HT_.out (by kernel_rfl)) (fun _ _ _ h => h) (Or.inl ⟨by rfl,?_⟩) ?_ ?_
       rotate_left
       ·intro w'
        go_simp
        with_reducible rfl
       rotate_left
       ·simp only [Act.put,List.setIfInBounds_toArray,List.set_cons_zero,List.set_cons_succ,i64_w,i32_w,IntKind.wrap_u8]
        rfl
       refine pure_ (i:=9) (N:=some 53) (v:=?_) (a':=?_) #[true,true,true,true,true,true,true,true,true,true,false] rfl rfl (any_of HT_.out (by kernel_rfl)) (fun _ _ _ h => h) (Or.inl ⟨by rfl,?_⟩) ?_ ?_
       rotate_left
       ·intro w'
        go_simp
        with_reducible rfl
       rotate_left
       ·simp only [Act.put,List.setIfInBounds_toArray,List.set_cons_zero,List.set_cons_succ,i64_w,i32_w,IntKind.wrap_u8]
        rfl
       refine last_ (i:=10) (N:=none) #[true,true,true,true,true,true,true,true,true,true,true] rfl rfl (one_of HT_.out (by kernel_rfl)) (by decide) (fun K hK => ?_)
       refine skip_ (w1:=?_) (by rfl) rfl ?_ ?_
       rotate_left
       ·go_simp
        rfl
       refine hK.out _ _ ?_
       clear hK K
       refine done_ (done_of HT_.out (by kernel_rfl)) ?_
       have n0_ : Aside0 (Kd.R Kd.string 9 (w109.setCell ⟨go81,(t362 : Int).toNat * 4 + 3,none⟩ ((.slice Av_ y382.length cv_))) w.heap.size (fun k_ => (w.heap.size ≤ k_)) (.slice Ao86 y346.length co86) y346):=⟨by (with_reducible repeat (first|apply Kd.R_alloc|apply Kd.R_drewN|apply Kd.R_drew));exact Kd.R_mono (Kd.R_far (p:=⟨go81,(t362 : Int).toNat * 4 + 3,none⟩) (Kd.R_types HO348.out GG81.out (by decide)) (fun _ hk => hk.2) ((.slice Av_ y382.length cv_))) (fun _ hk => hk.1.1)⟩
       have n1_ : Aside0 (Kd.N k34 34 (w109.setCell ⟨go81,(t362 : Int).toNat * 4 + 3,none⟩ ((.slice Av_ y382.length cv_))) w.heap.size (fun k_ => (w.heap.size ≤ k_) ∧ some k_ ≠ (.slice Ao86 y346.length co86 : Value).ownBlock ∧ some k_ ≠ (.slice (some ⟨go81,0,none⟩) y358.length co97 : Value).ownBlock ∧ some k_ ≠ (.slice Ao107 y376.length co107 : Value).ownBlock ∧ k_ ≠ gb342 ∧ k_ ≠ g ∧ k_ ≠ gb354 ∧ k_ ≠ gb361) (.slice Ao89 t349.length co89) t349):=⟨by (with_reducible repeat (first|apply Kd.N_alloc|apply Kd.N_drewN|apply Kd.N_drew));exact Kd.N_mono (Kd.N_far (p:=⟨go81,(t362 : Int).toNat * 4 + 3,none⟩) (Kd.N_mono HO351.out (fun k_ hk => (⟨hk,fun e_ => hk.1.1.1.2 (by rw [e_];rfl)⟩ : _ ∧ k_ ≠ go81))) (fun _ hk => hk.2) ((.slice Av_ y382.length cv_))) (fun _ hk => ⟨hk.1.1.1.1.1.1,⟨hk.1.1.1.1.1.2.1,⟨hk.1.1.1.1.2,⟨hk.1.1.2,⟨hk.1.1.1.1.1.2.2.1,⟨hk.1.1.1.1.1.2.2.2.1,⟨hk.1.1.1.1.1.2.2.2.2,hk.1.1.1.2⟩⟩⟩⟩⟩⟩⟩)⟩
       have n2_ : Aside0 (Kd.N k34 34 (w109.setCell ⟨go81,(t362 : Int).toNat * 4 + 3,none⟩ ((.slice Av_ y382.length cv_))) w.heap.size (fun k_ => (w.heap.size ≤ k_) ∧ some k_ ≠ (.slice Ao86 y346.length co86 : Value).ownBlock ∧ some k_ ≠ (.slice Ao107 y376.length co107 : Value).ownBlock ∧ k_ ≠ gb342 ∧ k_ ≠ gb354 ∧ k_ ≠ g ∧ k_ ≠ gb361) (.slice (some ⟨go81,0,none⟩) y358.length co97) y385):=⟨by (with_reducible repeat (first|apply Kd.N_alloc|apply Kd.N_drewN|apply Kd.N_drew));exact Kd.N_mono HQ111.out (fun _ hk => ⟨hk.1,⟨hk.2.1,⟨hk.2.2.1,⟨hk.2.2.2.1,⟨hk.2.2.2.2.1,⟨hk.2.2.2.2.2.2,hk.2.2.2.2.2.1⟩⟩⟩⟩⟩⟩)⟩
       have n3_ : Aside0 (Kd.R (Kd.int .i64) 3 (w109.setCell ⟨go81,(t362 : Int).toNat * 4 + 3,none⟩ ((.slice Av_ y382.length cv_))) w.heap.size (fun k_ => (w.heap.size ≤ k_)) (.slice Ao107 y376.length co107) y376):=⟨by (with_reducible repeat (first|apply Kd.R_alloc|apply Kd.R_drewN|apply Kd.R_drew));exact Kd.R_mono (Kd.R_far (p:=⟨go81,(t362 : Int).toNat * 4 + 3,none⟩) (Kd.R_types HO378.out GG81.out (by decide)) (fun _ hk => hk.2) ((.slice Av_ y382.length cv_))) (fun _ hk => hk.1.1.1)⟩
       have n4_ : Aside0 ((w109.setCell ⟨go81,(t362 : Int).toNat * 4 + 3,none⟩ ((.slice Av_ y382.length cv_))).heap[gb342]? = some (.cells #[.slice none 0 0] 28 (0,0))):=⟨by (with_reducible repeat first|refine zl_ ?_ _|refine zr_ ?_|refine zk_ ?_ _);refine blk_far ?_ zt11_52 _;(with_reducible repeat first|refine zl_ ?_ _|refine zr_ ?_|refine zk_ ?_ _);exact BK342.out⟩
       have n5_ : Aside0 ((w109.setCell ⟨go81,(t362 : Int).toNat * 4 + 3,none⟩ ((.slice Av_ y382.length cv_))).heap[gb354]? = some (.cells #[.slice Ao89 t349.length co89] 28 (0,0))):=⟨by (with_reducible repeat first|refine zl_ ?_ _|refine zr_ ?_|refine zk_ ?_ _);refine blk_far ?_ zt11_53 _;(with_reducible repeat first|refine zl_ ?_ _|refine zr_ ?_|refine zk_ ?_ _);exact BK354.out⟩
       have n6_ : Aside0 ((w109.setCell ⟨go81,(t362 : Int).toNat * 4 + 3,none⟩ ((.slice Av_ y382.length cv_))).heap[gb361]? = some (.cells #[.slice (some ⟨go81,0,none⟩) y358.length co97] 28 (0,0))):=⟨by (with_reducible repeat first|refine zl_ ?_ _|refine zr_ ?_|refine zk_ ?_ _);refine blk_far ?_ zt11_54 _;(with_reducible repeat first|refine zl_ ?_ _|refine zr_ ?_|refine zk_ ?_ _);exact BK361.out⟩
       have n7_ : Aside0 (IsS109 w0 (w109.setCell ⟨go81,(t362 : Int).toNat * 4 + 3,none⟩ ((.slice Av_ y382.length cv_))) g s0_0 t380 t381):=⟨by repeat (first|(with_reducible first|exact HI0.out|apply IsS109.alloc|apply IsS109.drewN|apply IsS109.drew|apply IsS109.set_1|apply IsS109.set_2|refine IsS109.far ?_ HN0_go81.out _|refine IsS109.far ?_ NB0_342.out _|refine IsS109.far ?_ NB0_354.out _|refine IsS109.far ?_ NB0_361.out _)|exact HI0.out)⟩
       have n8_ : Aside0 (KeepBut w (w109.setCell ⟨go81,(t362 : Int).toNat * 4 + 3,none⟩ ((.slice Av_ y382.length cv_))) g none):=⟨by repeat (first|(with_reducible first|exact HK.out|apply KeepBut.set_|apply keep_drewN|apply keep_drew|apply keep_alloc|refine keep_far ?_ GB81.out _|refine keep_far ?_ GW342.out _|refine keep_far ?_ GW354.out _|refine keep_far ?_ GW361.out _)|exact HK.out)⟩
       have n9_ : Aside0 (Below w0.heap.size w0 (w109.setCell ⟨go81,(t362 : Int).toNat * 4 + 3,none⟩ ((.slice Av_ y382.length cv_)))):=⟨by repeat (first|(with_reducible first|exact HB.out|apply za_|apply zn_|apply zd_|refine zs_ ?_ (Nat.le_trans HL.out GB81.out)|refine zs_ ?_ (IsS109.ge HI0.out)|refine zs_ ?_ GE342.out|refine zs_ ?_ GE354.out|refine zs_ ?_ GE361.out)|exact HB.out)⟩
       (try clear HO348)
       (try clear HO351)
       (try clear HO360)
       (try clear HO378)
       (try clear BK342)
       (try clear BK354)
       (try clear BK361)
       (try clear HI0)
       (try clear HK)
       (try clear HB)
       generalize (w109.setCell ⟨go81,(t362 : Int).toNat * 4 + 3,none⟩ ((.slice Av_ y382.length cv_))) = w112 at n0_ n1_ n2_ n3_ n4_ n5_ n6_ n7_ n8_ n9_ ⊢
       have HO348:=n0_
       have HO351:=n1_
       have HO360:=n2_
       have HO378:=n3_
       have BK342:=n4_
       have BK354:=n5_
       have BK361:=n6_
       have HI0:=n7_
       have HK:=n8_
       have HB:=n9_
       clear n0_ n1_ n2_ n3_ n4_ n5_ n6_ n7_ n8_ n9_
       have hcz113_0 : w112.cell? ⟨gb361,0,none⟩ = some (.slice (some ⟨go81,0,none⟩) y358.length co97):=(zc_ BK361.out 0).trans rfl
       have hfz113_0:=zf_ BK361.out 0
       have hnb114:=NB342_0.out
       have hnc114:=NB0_342.out
       have hcz115_0 : w112.cell? ⟨gb342,0,none⟩ = some (.slice none 0 0):=(zc_ BK342.out 0).trans rfl
       have hfz115_0:=zf_ BK342.out 0
       try go_wp2
       refine bodyPost_ret (results_cell_row rfl _ _ gb342 28 #[.slice (some ⟨go81,0,none⟩) y358.length co97] (0,0) _ rfl zt11_26 Try.underlying28 rfl (by kernel_rfl)) rfl ?_
       exact ⟨_,by first|rfl|(simp [errW_none,errW_some] <;> rfl)|(simp [*,errW_none,errW_some] <;> rfl),by (with_reducible repeat (first|apply Kd.N_alloc|apply Kd.N_drewN|apply Kd.N_drew));exact Kd.N_mono (Kd.N_far (p:=⟨gb342,0,none⟩) (Kd.N_mono HO360.out (fun k_ hk => (⟨hk,hk.2.2.2.1⟩ : _ ∧ k_ ≠ gb342))) (fun _ hk => hk.2) (.slice (some ⟨go81,0,none⟩) y358.length co97)) (fun _ hk => hk.1.1),by repeat (first|(with_reducible first|exact HI0.out|apply IsS109.alloc|apply IsS109.drewN|apply IsS109.drew|apply IsS109.set_1|apply IsS109.set_2|refine IsS109.far ?_ NB0_342.out _|refine IsS109.far ?_ NB0_354.out _|refine IsS109.far ?_ NB0_361.out _)|exact HI0.out),by repeat (first|(with_reducible first|exact HB.out|apply za_|apply zn_|apply zd_|refine zs_ ?_ (IsS109.ge HI0.out)|refine zs_ ?_ GE342.out|refine zs_ ?_ GE354.out|refine zs_ ?_ GE361.out)|exact HB.out),by repeat (first|(with_reducible first|exact HK.out|apply KeepBut.set_|apply keep_drewN|apply keep_drew|apply keep_alloc|refine keep_far ?_ GW342.out _|refine keep_far ?_ GW354.out _|refine keep_far ?_ GW361.out _)|exact HK.out)⟩
      ·rw [if_neg c80] at H
       exact absurd H (by simp)
     ·rw [if_neg c79] at H
      exact absurd H (by simp)
    ·rw [if_neg c77] at H
     have c77b0 : (t343 == 2) = false:=beq_eq_false_iff_ne.mpr c77
     have c77b1 : (t343 != 2) = true:=bne_iff_ne.mpr c77
     by_cases c116 : t343 = 3
     ·rw [if_pos c116] at H
      have c116b0 : (t343 == 3) = true:=beq_iff_eq.mpr c116
      have c116b1 : (t343 != 3) = false:=bne_eq_false_iff_eq.mpr c116
      clear c116
      obtain ⟨y386,hy386⟩ : ∃ y_ : List ByteArray,y_ = (([(⟨#[]⟩ : ByteArray),(⟨#[97]⟩ : ByteArray),(⟨#[65]⟩ : ByteArray)] : List ByteArray)):=⟨_,rfl⟩
      replace H : ((spec_l01Pick.f s0_0 t363 t364 y386).bind fun bt389 => (if 0 ≤ t362 then (if t362 < (y358.length : Int) then (some ((y358.set (t362 : Int).toNat (⟨(rd_T34 y358 t362).f0,(rd_T34 y358 t362).f1,bt389.1,(rd_T34 y358 t362).f3⟩ : S34)),bt389.2.1,bt389.2.2)) else (none)) else (none))) = some (r1,r2,r3):=by first|(rw [hy386];with_reducible exact H)|(have H2_:=(Option.bind_some _ _).symm.trans H;rw [hy386];with_reducible exact H2_)|(have H2_:=(Option.bind_some _ _).symm.trans H;with_reducible exact H2_)|with_reducible exact H|(rw [hy386];exact H)|exact H
      have Ny386:=zm_ hy386
      clear hy386
      replace H:=Option.bind_eq_some_iff.mp H
      obtain ⟨⟨t389,t390,t391⟩,A1170,H⟩:=H
      replace H : (if 0 ≤ t362 then (if t362 < (y358.length : Int) then (some ((y358.set (t362 : Int).toNat (⟨(rd_T34 y358 t362).f0,(rd_T34 y358 t362).f1,t389,(rd_T34 y358 t362).f3⟩ : S34)),t390,t391)) else (none)) else (none)) = some (r1,r2,r3):=H
      have A117:=zm_ A1170
      clear A1170
      by_cases c118 : 0 ≤ t362
      ·rw [if_pos c118] at H
       have c118b0 : decide (0 ≤ t362) = true:=decide_eq_true c118
       clear c118
       by_cases c119 : t362 < (y358.length : Int)
       ·rw [if_pos c119] at H
        have c119b0 : decide (t362 < (y358.length : Int)) = true:=decide_eq_true c119
        clear c119
        obtain ⟨y392,hy392⟩ : ∃ y_ : List (S34),y_ = (y358.set (t362 : Int).toNat (⟨(rd_T34 y358 t362).f0,(rd_T34 y358 t362).f1,t389,(rd_T34 y358 t362).f3⟩ : S34)):=⟨_,rfl⟩
        replace H : (some (y392,t390,t391)) = some (r1,r2,r3):=by first|(rw [hy392];with_reducible exact H)|(have H2_:=(Option.bind_some _ _).symm.trans H;rw [hy392];with_reducible exact H2_)|(have H2_:=(Option.bind_some _ _).symm.trans H;with_reducible exact H2_)|with_reducible exact H|(rw [hy392];exact H)|exact H
        have Ny392:=zm_ hy392
        clear hy392
        simp only [Option.some.injEq,Prod.mk.injEq] at H
        obtain ⟨rfl,rfl,rfl⟩:=H
        go_enter Try.func47,Try.ntmps47
        try go_wp2_with (first|((with_reducible refine gate_dst (N:=2) rfl ?_);refine box_event ?hg (N:=2) ?hd (cs:=#[.slice none 0 0]) (t:=28) ?hr ?_;(case hd => rfl);(case hg => rfl);(case hr => first|(go_simp;done)|(go_simp;rfl));intro gb342 hg w121 hbox hb;have n0_:=zm_ (IsS109.below zt11_11 hb);have n1_:=zm_ (KeepBut.trans zt11_13 (KeepBut.of_below hb g none) (.inl rfl));have n2_:=zm_ (below_step zt11_29 hb);have n3_:=zm_ (hbox);have n4_:=zm_ ((zt11_30 : w.heap.size ≤ gb342));have n5_:=zm_ ((Nat.le_trans HW0.out (zt11_30 : w.heap.size ≤ gb342) : w0.heap.size ≤ gb342));have n6_:=zm_ ((zt11_34 : g ≠ gb342));have n7_:=zm_ ((zt11_35 : gb342 ≠ g));clear HI0;clear HK;clear HB;have HI0:=n0_;have HK:=n1_;have HB:=n2_;have BK342:=n3_;have GW342:=n4_;have GE342:=n5_;have NB0_342:=n6_;have NB342_0:=n7_;clear n0_ n1_ n2_ n3_ n4_ n5_ n6_ n7_;clear hb hbox hg)|((with_reducible refine gate_callee (f:=43) rfl ?_);refine goesL_ (some 8) rfl rfl Try.func43 (by kernel_rfl) rfl #[.pointer (some ⟨g,0,none⟩),.int .i64 16] rfl zq_ ?_;(with_reducible refine (spec_l01Below.calls g s0_0 s0_1 s0_2 16 t343 t344 t345 w0 _ ?side1 ?side2 A2.out).mono ?_);(case side1 => repeat (first|(with_reducible first|exact HI0.out|apply IsS109.alloc|apply IsS109.drewN|apply IsS109.drew|apply IsS109.set_1|apply IsS109.set_2|refine IsS109.far ?_ NB0_342.out _)|exact HI0.out));(case side2 => repeat (first|(with_reducible first|exact HB.out|apply za_|apply zn_|apply zd_|refine zs_ ?_ (IsS109.ge HI0.out)|refine zs_ ?_ GE342.out)|exact HB.out));rintro e w122 ⟨rfl,hi,hb,hk⟩;refine ⟨_,rfl,?_⟩;have n0_:=zm_ (KeepBut.blk hk (g':=gb342) (o:=.cells #[.slice none 0 0] 28 (0,0)) zt11_4 NB342_0.out (by simp));have n1_:=zm_ (KeepBut.trans zt11_2 hk (.inl rfl));have n2_:=zm_ (hb);have n3_:=zm_ (hi);clear BK342;clear HK;clear HB;clear HI0;have BK342:=n0_;have HK:=n1_;have HB:=n2_;have HI0:=n3_;clear n0_ n1_ n2_ n3_;(try clear hb);(try clear hb2);(try clear hk);(try clear hi))|((with_reducible refine gate_dst (N:=10) rfl ?_);refine Kd.R_lit Kd.string _ 9 ?hg (N:=10) ?hd (xs:=([(⟨#[97]⟩ : ByteArray),(⟨#[98]⟩ : ByteArray),(⟨#[110]⟩ : ByteArray)] : List ByteArray)) (inner:=[.string (⟨#[97]⟩ : ByteArray),.string (⟨#[98]⟩ : ByteArray),.string (⟨#[110]⟩ : ByteArray)]) (ok:=fun _ => True) (okp:=fun _ => True) ?hr ?hp (fun _ hk => hk) trivial (Below.refl _ _) (Nat.le_refl _) (by simp) ?_;(case hd => rfl);(case hg => rfl);(case hr => first|(go_simp;done)|(go_simp;rfl));(case hp => exact (Reps.one (show Kd.M Kd.string _ _ _ (⟨#[97]⟩ : ByteArray) [.string (⟨#[97]⟩ : ByteArray)] from rfl) (Reps.one (show Kd.M Kd.string _ _ _ (⟨#[98]⟩ : ByteArray) [.string (⟨#[98]⟩ : ByteArray)] from rfl) (Reps.one (show Kd.M Kd.string _ _ _ (⟨#[110]⟩ : ByteArray) [.string (⟨#[110]⟩ : ByteArray)] from rfl) (Reps.none _ _)))));intro v347 w123 ho124 hb hg_ hnew_;clear hg_ hnew_;(first|rw [← Ny346.out] at ho124|(simp only [Int.reduceToNat] at ho124;rw [← Ny346.out] at ho124));have n0_:=zm_ (Kd.R_lower (Kd.R_newM (M:=fun k_ => (w.heap.size ≤ k_)) ho124 (keep_size (w:=w) (g:=g) (row:=none) zt11_2) (fun k_ h_ => h_)) (keep_size (w:=w) (g:=g) (row:=none) zt11_2));have n1_:=zm_ (IsS109.below zt11_5 hb);have n2_:=zm_ (blk_below (g:=gb342) (o:=.cells #[.slice none 0 0] 28 (0,0)) zt11_4 hb);have n3_:=zm_ (KeepBut.trans zt11_2 (KeepBut.of_below hb g none) (.inl rfl));have n4_:=zm_ (below_step zt11_16 hb);clear HI0;clear BK342;clear HK;clear HB;have HO348:=n0_;have HI0:=n1_;have BK342:=n2_;have HK:=n3_;have HB:=n4_;clear n0_ n1_ n2_ n3_ n4_;clear hb ho124;obtain ⟨Ao125,co125,eo125⟩:=Kd.R_slice HO348.out;subst eo125)|((with_reducible refine gate_callee (f:=53) rfl ?_);refine goesL_ (some 11) rfl rfl Try.func53 (by kernel_rfl) rfl #[.pointer (some ⟨g,0,none⟩),.slice Ao125 y346.length co125,.int .i64 2] rfl zq_ ?_;(with_reducible refine (spec_l04Expr.calls g s0_0 t344 t345 _ _ y346 2 t349 t352 t353 w0 _ ?side1 ?side2 ?side3 ?side4 ?side5 A3.out).mono ?_);(case side1 => repeat (first|(with_reducible first|exact HI0.out|apply IsS109.alloc|apply IsS109.drewN|apply IsS109.drew|apply IsS109.set_1|apply IsS109.set_2|refine IsS109.far ?_ NB0_342.out _)|exact HI0.out));(case side2 => repeat (first|(with_reducible first|exact HB.out|apply za_|apply zn_|apply zd_|refine zs_ ?_ (IsS109.ge HI0.out)|refine zs_ ?_ GE342.out)|exact HB.out));(case side3 => repeat (first|exact (Kd.R_reads' HO348.out).2.2|(with_reducible refine Kd.C_alloc ?_ _)|(with_reducible refine Kd.C_drewN ?_ _)|(with_reducible refine Kd.C_drew ?_)));(case side4 => exact (Kd.R_reads' HO348.out).2.1);(case side5 => exact far_slice (IsS109.own_ne HI0.out HO348.out (by decide)));rintro e w126 ⟨v350,rfl,ho0,hi,hb,hk⟩;refine ⟨_,rfl,?_⟩;have n0_:=zm_ (KeepBut.blk hk (g':=gb342) (o:=.cells #[.slice none 0 0] 28 (0,0)) zt11_4 NB342_0.out (by simp));have n1_:=zm_ (Kd.R_mono (Kd.R_keep (IsS109.apart (show IsS109 w0 _ g s0_0 t344 t345 from zt11_5) zt11_8 (by decide)) hk (fun _ h => h.2)) (fun _ h => h.1));have n2_:=zm_ (Kd.N_lower (Kd.N_mono (ok':=fun k_ => (w.heap.size ≤ k_) ∧ some k_ ≠ (.slice Ao125 y346.length co125 : Value).ownBlock ∧ k_ ≠ gb342 ∧ k_ ≠ g) (Kd.S_N (Kd.S_bound ho0)) (fun k_ hk_ => ⟨(Nat.le_trans (keep_size (w:=w) (g:=g) (row:=none) zt11_2) hk_.2.1),(Kd.fresh' (Kd.R_lt zt11_8) k_ hk_.2.1),(Kd.freshB (g:=gb342) (o:=.cells #[.slice none 0 0] 28 (0,0)) zt11_4 k_ hk_.2.1),(IsS109.fresh zt11_5 k_ hk_.2.1)⟩)) (keep_size (w:=w) (g:=g) (row:=none) zt11_2));have n3_:=zm_ (KeepBut.trans zt11_2 hk (.inl rfl));have n4_:=zm_ (hb);have n5_:=zm_ (hi);clear BK342;clear HO348;clear HK;clear HB;clear HI0;have BK342:=n0_;have HO348:=n1_;have HO351:=n2_;have HK:=n3_;have HB:=n4_;have HI0:=n5_;clear n0_ n1_ n2_ n3_ n4_ n5_;(try clear hb);(try clear hb2);(try clear hk);(try clear hi);(try clear ho0))|((with_reducible refine gate_dst (N:=4) rfl ?_);refine box_event ?hg (N:=4) ?hd (cs:=#[.slice none 0 0]) (t:=28) ?hr ?_;(case hd => rfl);(case hg => rfl);(case hr => first|(go_simp;done)|(go_simp;rfl));intro gb354 hg w127 hbox hb;have n0_:=zm_ (Kd.R_below zt11_8 hb);have n1_:=zm_ (Kd.N_below (Kd.N_elderB zt11_15 gb354 (Nat.le_of_eq hg.symm)) hb);have n2_:=zm_ (IsS109.below zt11_5 hb);have n3_:=zm_ (blk_below (g:=gb342) (o:=.cells #[.slice none 0 0] 28 (0,0)) zt11_4 hb);have n4_:=zm_ (KeepBut.trans zt11_2 (KeepBut.of_below hb g none) (.inl rfl));have n5_:=zm_ (below_step zt11_16 hb);have n6_:=zm_ (hbox);have n7_:=zm_ ((zt11_31 : w.heap.size ≤ gb354));have n8_:=zm_ ((Nat.le_trans HW0.out (zt11_31 : w.heap.size ≤ gb354) : w0.heap.size ≤ gb354));have n9_:=zm_ ((zt11_19 : gb342 ≠ gb354));have n10_:=zm_ ((zt11_20 : gb354 ≠ gb342));have n11_:=zm_ ((zt11_36 : g ≠ gb354));have n12_:=zm_ ((zt11_37 : gb354 ≠ g));clear HO348;clear HO351;clear HI0;clear BK342;clear HK;clear HB;have HO348:=n0_;have HO351:=n1_;have HI0:=n2_;have BK342:=n3_;have HK:=n4_;have HB:=n5_;have BK354:=n6_;have GW354:=n7_;have GE354:=n8_;have NB342_354:=n9_;have NB354_342:=n10_;have NB0_354:=n11_;have NB354_0:=n12_;clear n0_ n1_ n2_ n3_ n4_ n5_ n6_ n7_ n8_ n9_ n10_ n11_ n12_;clear hb hbox hg;obtain ⟨Ao128,co128,eo128⟩:=Kd.N_slice HO351.out;subst eo128;have hnb129:=NB354_342.out;have hnc129:=NB342_354.out;have hnb130:=NB354_0.out;have hnc130:=NB0_354.out;have hcz131_0 : w127.cell? ⟨gb354,0,none⟩ = some (.slice none 0 0):=(zc_ BK354.out 0).trans rfl;have hfz131_0:=zf_ BK354.out 0)|((with_reducible refine gate_dst (N:=12) rfl ?_);refine Kd.N_lit k34 _ 34 ?hg (N':=12) ?hd (xs:=([] : List (S34))) (inner:=[]) (ok:=(fun k_ => (w.heap.size ≤ k_) ∧ some k_ ≠ (.slice Ao125 y346.length co125 : Value).ownBlock ∧ some k_ ≠ (.slice Ao128 t349.length co128 : Value).ownBlock ∧ k_ ≠ gb342 ∧ k_ ≠ gb354 ∧ k_ ≠ g)) (okp:=(fun k_ => (w.heap.size ≤ k_) ∧ some k_ ≠ (.slice Ao125 y346.length co125 : Value).ownBlock ∧ some k_ ≠ (.slice Ao128 t349.length co128 : Value).ownBlock ∧ k_ ≠ gb342 ∧ k_ ≠ gb354 ∧ k_ ≠ g)) ?hr ?hp (fun _ hk => hk) ((show ∀ k_,(w127.setCell ⟨gb354,0,none⟩ (.slice Ao128 t349.length co128)).heap.size ≤ k_ → (fun k_ => (w.heap.size ≤ k_) ∧ some k_ ≠ (.slice Ao125 y346.length co125 : Value).ownBlock ∧ some k_ ≠ (.slice Ao128 t349.length co128 : Value).ownBlock ∧ k_ ≠ gb342 ∧ k_ ≠ gb354 ∧ k_ ≠ g) k_ from fun k_ hk => ⟨(Nat.le_trans (keep_size (w:=w) (g:=g) (row:=none) zt11_1) hk),Kd.fresh' (Kd.R_lt zt11_46) k_ hk,Kd.fresh' (Kd.N_lt zt11_40) k_ hk,Kd.freshB (g:=gb342) (o:=.cells #[.slice none 0 0] 28 (0,0)) zt11_14 k_ hk,Kd.freshB (g:=gb354) (o:=.cells #[.slice Ao128 t349.length co128] 28 (0,0)) zt11_12 k_ hk,IsS109.fresh zt11_3 k_ hk⟩) _ (Nat.le_refl _)) (Below.refl _ _) (Nat.le_refl _) (by simp) ?_;(case hd => rfl);(case hg => rfl);(case hr => first|(go_simp;done)|(go_simp;rfl));(case hp => exact (Reps.none _ _));intro v356 w132 ho133 hb hg_ hnew_;clear hg_ hnew_;(first|rw [← Ny355.out] at ho133|(simp only [Int.reduceToNat] at ho133;rw [← Ny355.out] at ho133));have n0_:=zm_ (Kd.R_below zt11_46 hb);have n1_:=zm_ (Kd.N_elder' zt11_40 (Kd.N_base ho133) hb);have n2_:=zm_ (Kd.N_lower ho133 (keep_size (w:=w) (g:=g) (row:=none) zt11_1));have n3_:=zm_ (IsS109.below (show IsS109 w0 (w127.setCell ⟨gb354,0,none⟩ (.slice Ao128 t349.length co128)) g s0_0 t352 t353 from zt11_3) hb);have n4_:=zm_ (blk_below (g:=gb342) (o:=.cells #[.slice none 0 0] 28 (0,0)) zt11_14 hb);have n5_:=zm_ (blk_below (g:=gb354) (o:=.cells #[.slice Ao128 t349.length co128] 28 (0,0)) zt11_12 hb);have n6_:=zm_ (KeepBut.trans zt11_1 (KeepBut.of_below hb g none) (.inl rfl));have n7_:=zm_ (below_step zt11_10 hb);clear HO348;clear HO351;clear HI0;clear BK342;clear BK354;clear HK;clear HB;have HO348:=n0_;have HO351:=n1_;have HO357:=n2_;have HI0:=n3_;have BK342:=n4_;have BK354:=n5_;have HK:=n6_;have HB:=n7_;clear n0_ n1_ n2_ n3_ n4_ n5_ n6_ n7_;clear hb ho133;have hcz134_0 : w132.cell? ⟨gb354,0,none⟩ = some (.slice Ao128 t349.length co128):=(zc_ BK354.out 0).trans rfl;have hfz134_0:=zf_ BK354.out 0)|((with_reducible refine gate_builtin (b:=.append) (xs:=#[.tmp 12,.tmp 14]) rfl ?_);at_builtin;refine Kd.N_append_rows k34 w.heap.size rfl (.tmp 12) (.tmp 14) 26 34 (.agg #[(.int .i64 0),(.int .i64 0),(.string ⟨#[]⟩),(.slice none 0 0)]) 56 rfl Try.underlying26 info34 rfl (by decide) (by omega) v356 y355 t349 _ _ _ (fun k_ => (w.heap.size ≤ k_) ∧ some k_ ≠ (.slice Ao125 y346.length co125 : Value).ownBlock ∧ k_ ≠ gb342 ∧ k_ ≠ gb354 ∧ k_ ≠ g) (fun k_ => ((fun k_ => (w.heap.size ≤ k_) ∧ some k_ ≠ (.slice Ao125 y346.length co125 : Value).ownBlock ∧ k_ ≠ gb342 ∧ k_ ≠ gb354 ∧ k_ ≠ g)) k_ ∧ some k_ ≠ (v356 : Value).ownBlock) rfl rfl ?aO ?aR (fun _ hk => hk) ?aF (Below.refl _ _) ?aS ?aL ?_;(case aR => exact (by skip;exact Kd.N_F (Kd.N_mono (ok':=(fun k_ => ((fun k_ => (w.heap.size ≤ k_) ∧ some k_ ≠ (.slice Ao125 y346.length co125 : Value).ownBlock ∧ k_ ≠ gb342 ∧ k_ ≠ gb354 ∧ k_ ≠ g)) k_ ∧ some k_ ≠ (v356 : Value).ownBlock)) (HO351.out) (fun k_ hk => ⟨⟨hk.1.1.1,⟨hk.1.1.2.1,⟨hk.1.1.2.2.1,⟨hk.1.2,hk.1.1.2.2.2⟩⟩⟩⟩,hk.2⟩))));(case aF => exact (fun k_ hk => ⟨(Nat.le_trans (keep_size (w:=w) (g:=g) (row:=none) zt11_1) hk),Kd.fresh' (Kd.R_lt zt11_8) k_ hk,Kd.freshB (g:=gb342) (o:=.cells #[.slice none 0 0] 28 (0,0)) zt11_4 k_ hk,Kd.freshB (g:=gb354) (o:=.cells #[.slice Ao128 t349.length co128] 28 (0,0)) zt11_9 k_ hk,IsS109.fresh zt11_3 k_ hk⟩));(case aO => exact zt11_25);(case aS => exact (keep_size (w:=w) (g:=g) (row:=none) zt11_1));(case aL => have:=LMc4.out;omega);intro v359 w135 ho hb hg hat;rw [← Ny358.out] at ho;have n0_:=zm_ (IsS109.grown zt11_3 hg (IsS109.own_neN HI0.out HO357.out (by decide)));have n1_:=zm_ (blk_grown (g:=gb342) (o:=.cells #[.slice none 0 0] 28 (0,0)) zt11_4 hg (Kd.N_ne HO357.out BK342.out (by decide)));have n2_:=zm_ (Kd.R_over' zt11_8 (Kd.N_typed zt11_33) (by decide) hg);have n3_:=zm_ (Kd.N_afterv (ok:=(fun k_ => (w.heap.size ≤ k_) ∧ some k_ ≠ (.slice Ao125 y346.length co125 : Value).ownBlock ∧ k_ ≠ gb342 ∧ k_ ≠ g ∧ k_ ≠ gb354)) zt11_23 hg hat);have n4_:=zm_ (blk_grown (g:=gb354) (o:=.cells #[.slice Ao128 t349.length co128] 28 (0,0)) zt11_9 hg (Kd.N_ne HO357.out BK354.out (by decide)));have n5_:=zm_ (below_weaken zt11_10 HL.out hb);have n6_:=zm_ (KeepBut.trans zt11_1 (KeepBut.of_grown hg g) (Kd.N_base2 HO357.out));have n7_:=zm_ (ho);clear HI0;clear BK342;clear HO348;clear HO351;clear BK354;clear HB;clear HK;clear HO357;have HI0:=n0_;have BK342:=n1_;have HO348:=n2_;have HO351:=n3_;have BK354:=n4_;have HB:=n5_;have HK:=n6_;have HO360:=n7_;clear n0_ n1_ n2_ n3_ n4_ n5_ n6_ n7_;clear ho hb hg hat;obtain ⟨Ao136,co136,eo136⟩:=Kd.N_slice HO360.out;subst eo136)|((with_reducible refine gate_dst (N:=5) rfl ?_);refine box_event ?hg (N:=5) ?hd (cs:=#[.slice none 0 0]) (t:=28) ?hr ?_;(case hd => rfl);(case hg => rfl);(case hr => first|(go_simp;done)|(go_simp;rfl));intro gb361 hg w137 hbox hb;have n0_:=zm_ (Kd.R_below zt11_8 hb);have n1_:=zm_ (Kd.N_below (Kd.N_elderB zt11_15 gb361 (Nat.le_of_eq hg.symm)) hb);have n2_:=zm_ (Kd.N_below (Kd.N_elderB zt11_17 gb361 (Nat.le_of_eq hg.symm)) hb);have n3_:=zm_ (IsS109.below zt11_3 hb);have n4_:=zm_ (blk_below (g:=gb342) (o:=.cells #[.slice none 0 0] 28 (0,0)) zt11_4 hb);have n5_:=zm_ (blk_below (g:=gb354) (o:=.cells #[.slice Ao128 t349.length co128] 28 (0,0)) zt11_9 hb);have n6_:=zm_ (KeepBut.trans zt11_1 (KeepBut.of_below hb g none) (.inl rfl));have n7_:=zm_ (below_step zt11_10 hb);have n8_:=zm_ (hbox);have n9_:=zm_ ((zt11_32 : w.heap.size ≤ gb361));have n10_:=zm_ ((Nat.le_trans HW0.out (zt11_32 : w.heap.size ≤ gb361) : w0.heap.size ≤ gb361));have n11_:=zm_ ((zt11_19 : gb342 ≠ gb361));have n12_:=zm_ ((zt11_20 : gb361 ≠ gb342));have n13_:=zm_ ((by rw [hg];exact Nat.ne_of_lt (blk_lt (g:=gb354) (o:=.cells #[.slice Ao128 t349.length co128] 28 (0,0)) zt11_9) : gb354 ≠ gb361));have n14_:=zm_ ((by rw [hg];exact Nat.ne_of_gt (blk_lt (g:=gb354) (o:=.cells #[.slice Ao128 t349.length co128] 28 (0,0)) zt11_9) : gb361 ≠ gb354));have n15_:=zm_ ((zt11_38 : g ≠ gb361));have n16_:=zm_ ((zt11_39 : gb361 ≠ g));clear HO348;clear HO351;clear HO360;clear HI0;clear BK342;clear BK354;clear HK;clear HB;have HO348:=n0_;have HO351:=n1_;have HO360:=n2_;have HI0:=n3_;have BK342:=n4_;have BK354:=n5_;have HK:=n6_;have HB:=n7_;have BK361:=n8_;have GW361:=n9_;have GE361:=n10_;have NB342_361:=n11_;have NB361_342:=n12_;have NB354_361:=n13_;have NB361_354:=n14_;have NB0_361:=n15_;have NB361_0:=n16_;clear n0_ n1_ n2_ n3_ n4_ n5_ n6_ n7_ n8_ n9_ n10_ n11_ n12_ n13_ n14_ n15_ n16_;clear hb hbox hg;have hnb138:=NB361_342.out;have hnc138:=NB342_361.out;have hnb139:=NB361_354.out;have hnc139:=NB354_361.out;have hnb140:=NB361_0.out;have hnc140:=NB0_361.out;have hcz141_0 : w137.cell? ⟨gb361,0,none⟩ = some (.slice none 0 0):=(zc_ BK361.out 0).trans rfl;have hfz141_0:=zf_ BK361.out 0)|((with_reducible refine gate_callee (f:=43) rfl ?_);refine goesL_ (some 21) rfl rfl Try.func43 (by kernel_rfl) rfl #[.pointer (some ⟨g,0,none⟩),.int .i64 (y358.length : Int)] rfl zq_ ?_;(with_reducible refine (spec_l01Below.calls g s0_0 t352 t353 (y358.length : Int) t362 t363 t364 w0 _ ?side1 ?side2 A5.out).mono ?_);(case side1 => repeat (first|(with_reducible first|exact HI0.out|apply IsS109.alloc|apply IsS109.drewN|apply IsS109.drew|apply IsS109.set_1|apply IsS109.set_2|refine IsS109.far ?_ NB0_342.out _|refine IsS109.far ?_ NB0_354.out _|refine IsS109.far ?_ NB0_361.out _)|exact HI0.out));(case side2 => repeat (first|(with_reducible first|exact HB.out|apply za_|apply zn_|apply zd_|refine zs_ ?_ (IsS109.ge HI0.out)|refine zs_ ?_ GE342.out|refine zs_ ?_ GE354.out|refine zs_ ?_ GE361.out)|exact HB.out));rintro e w142 ⟨rfl,hi,hb,hk⟩;refine ⟨_,rfl,?_⟩;have n0_:=zm_ (KeepBut.blk hk (g':=gb342) (o:=.cells #[.slice none 0 0] 28 (0,0)) zt11_21 NB342_0.out (by simp));have n1_:=zm_ (Kd.R_mono (Kd.R_keep (IsS109.apart (show IsS109 w0 _ g s0_0 t352 t353 from zt11_7) (by (with_reducible repeat (first|apply Kd.R_alloc|apply Kd.R_drewN|apply Kd.R_drew));exact (Kd.R_mono (Kd.R_far (p:=⟨gb361,0,none⟩) (Kd.R_types HO348.out BK361.out (by decide)) (fun _ hk => hk.2) (.slice Ao136 y358.length co136)) (fun _ h_ => h_.1))) (by decide)) hk (fun _ h => h.2)) (fun _ h => h.1));have n2_:=zm_ (Kd.N_mono (Kd.N_keep (Kd.N_mono (ok:=fun k_ => (((((w.heap.size ≤ k_)) ∧ (some k_ ≠ (.slice Ao125 y346.length co125 : Value).ownBlock ∧ (k_ ≠ gb342 ∧ (k_ ≠ g ∧ k_ ≠ gb354)))) ∧ some k_ ≠ (.slice Ao136 y358.length co136 : Value).ownBlock) ∧ k_ ≠ gb361)) (by (with_reducible repeat (first|apply Kd.N_alloc|apply Kd.N_drewN|apply Kd.N_drew));exact (Kd.N_mono (Kd.N_far (p:=⟨gb361,0,none⟩) (Kd.N_mono HO351.out (fun k_ hk => (⟨hk,hk.2⟩ : _ ∧ k_ ≠ gb361))) (fun _ hk => hk.2) (.slice Ao136 y358.length co136)) (fun _ h_ => h_.1))) (fun k_ hk_ => (⟨hk_,hk_.1.1.2.2.2.1⟩ : _ ∧ k_ ≠ g))) hk (fun _ h => h.2)) (fun _ h => h.1));have n3_:=zm_ (KeepBut.blk hk (g':=gb354) (o:=.cells #[.slice Ao128 t349.length co128] 28 (0,0)) zt11_22 NB354_0.out (by simp));have n4_:=zm_ (Kd.N_mono (Kd.N_keep (Kd.N_mono (ok:=fun k_ => ((((w.heap.size ≤ k_)) ∧ (some k_ ≠ (.slice Ao125 y346.length co125 : Value).ownBlock ∧ (k_ ≠ gb342 ∧ (k_ ≠ gb354 ∧ k_ ≠ g)))) ∧ k_ ≠ gb361)) (by (with_reducible repeat (first|apply Kd.N_alloc|apply Kd.N_drewN|apply Kd.N_drew));exact (Kd.N_mono (Kd.N_far (p:=⟨gb361,0,none⟩) (Kd.N_mono HO360.out (fun k_ hk => (⟨hk,hk.2⟩ : _ ∧ k_ ≠ gb361))) (fun _ hk => hk.2) (.slice Ao136 y358.length co136)) (fun _ h_ => h_.1))) (fun k_ hk_ => (⟨hk_,hk_.1.2.2.2.2⟩ : _ ∧ k_ ≠ g))) hk (fun _ h => h.2)) (fun _ h => h.1));have n5_:=zm_ (KeepBut.blk hk (g':=gb361) (o:=.cells #[.slice Ao136 y358.length co136] 28 (0,0)) zt11_18 NB361_0.out (by simp));have n6_:=zm_ (KeepBut.trans zt11_6 hk (.inl rfl));have n7_:=zm_ (hb);have n8_:=zm_ (hi);clear BK342;clear HO348;clear HO351;clear BK354;clear HO360;clear BK361;clear HK;clear HB;clear HI0;have BK342:=n0_;have HO348:=n1_;have HO351:=n2_;have BK354:=n3_;have HO360:=n4_;have BK361:=n5_;have HK:=n6_;have HB:=n7_;have HI0:=n8_;clear n0_ n1_ n2_ n3_ n4_ n5_ n6_ n7_ n8_;(try clear hb);(try clear hb2);(try clear hk);(try clear hi)))
        have n0_:=zm_ (Kd.R_drew HO348.out)
        have n1_:=zm_ (Kd.N_drew HO351.out)
        have n2_:=zm_ (Kd.N_drew HO360.out)
        have n3_:=zm_ (zr_ BK342.out)
        have n4_:=zm_ (zr_ BK354.out)
        have n5_:=zm_ (zr_ BK361.out)
        have n6_:=zm_ (IsS109.drew HI0.out)
        have n7_:=zm_ (keep_drew HK.out)
        have n8_:=zm_ (zd_ HB.out)
        clear HO348
        clear HO351
        clear HO360
        clear BK342
        clear BK354
        clear BK361
        clear HI0
        clear HK
        clear HB
        have HO348:=n0_
        have HO351:=n1_
        have HO360:=n2_
        have BK342:=n3_
        have BK354:=n4_
        have BK361:=n5_
        have HI0:=n6_
        have HK:=n7_
        have HB:=n8_
        clear n0_ n1_ n2_ n3_ n4_ n5_ n6_ n7_ n8_
        refine start_ (n:=9) (S:=fun w' => w'.cell? ⟨gb361,0,none⟩ = some (.slice Ao136 y358.length co136)) (ds:=[8]) #[false,false,false,false,false,false,false,false,false] (by kernel_rfl) rfl rfl ((zc_ BK361.out 0).trans rfl) (fun hHeld => ?_);refine with_tabW spec_l04Any.tab13 spec_l04Any.bits13 (fun HT_ HW_ => ?_)
        generalize w142.drew = w143 at HO348 HO351 HO360 BK342 BK354 BK361 HI0 HK HB hHeld ⊢
        refine pure_ (i:=0) (N:=some 56) (v:=?_) (a':=?_) #[true,false,false,false,false,false,false,false,false] rfl rfl (any_of HT_.out (by kernel_rfl)) (fun _ _ _ h => h) (Or.inl ⟨by rfl,?_⟩) ?_ ?_
        rotate_left
        ·intro w'
         go_simp
         with_reducible rfl
        rotate_left
        ·simp only [Act.put,List.setIfInBounds_toArray,List.set_cons_zero,List.set_cons_succ,i64_w,i32_w,IntKind.wrap_u8]
         rfl
        refine pure_ (i:=2) (N:=some 58) (v:=?_) (a':=?_) #[true,false,true,false,false,false,false,false,false] rfl rfl (any_of HT_.out (by kernel_rfl)) (fun _ _ _ h => h) (Or.inl ⟨by rfl,?_⟩) ?_ ?_
        rotate_left
        ·intro w'
         go_simp
         with_reducible rfl
        rotate_left
        ·simp only [Act.put,List.setIfInBounds_toArray,List.set_cons_zero,List.set_cons_succ,i64_w,i32_w,IntKind.wrap_u8]
         rfl
        refine pure_ (i:=3) (N:=some 59) (v:=?_) (a':=?_) #[true,false,true,true,false,false,false,false,false] rfl rfl (any_of HT_.out (by kernel_rfl)) (fun _ _ _ h => h) (Or.inl ⟨by rfl,?_⟩) ?_ ?_
        rotate_left
        ·intro w'
         go_simp
         with_reducible rfl
        rotate_left
        ·simp only [Act.put,List.setIfInBounds_toArray,List.set_cons_zero,List.set_cons_succ,i64_w,i32_w,IntKind.wrap_u8]
         rfl
        refine take_ (i:=1) (N:=some 57) (v:=?_) (a':=?_) #[true,true,true,true,false,false,false,false,false] rfl rfl (take_ofW HT_.out HW_.out (by kernel_rfl)) (fun _ _ _ h => h) (Or.inl ⟨by rfl,?_⟩) hHeld ?_ ?_
        rotate_left
        ·intro w' s0
         go_simp
         with_reducible rfl
        rotate_left
        ·simp only [Act.put,List.setIfInBounds_toArray,List.set_cons_zero,List.set_cons_succ,i64_w,i32_w,IntKind.wrap_u8]
         rfl
        refine one_ (i:=4) (N:=some 60) #[true,true,true,true,true,false,false,false,false] rfl rfl (one_of HT_.out (by kernel_rfl)) (by decide) (fun K hK => ?_)
        refine Kd.R_lit_step Kd.string _ 9 ?hg (N:=60) ?hd (xs:=([(⟨#[]⟩ : ByteArray),(⟨#[97]⟩ : ByteArray),(⟨#[65]⟩ : ByteArray)] : List ByteArray)) (inner:=[.string (⟨#[]⟩ : ByteArray),.string (⟨#[97]⟩ : ByteArray),.string (⟨#[65]⟩ : ByteArray)]) (ok:=fun _ => True) (okp:=fun _ => True) ?hr ?hp (fun _ hk => hk) trivial (Below.refl _ _) (Nat.le_refl _) (by simp) ?_;(case hd => rfl);(case hg => rfl);(case hr => first|(go_simp;done)|(go_simp;rfl));(case hp => exact (Reps.one (show Kd.M Kd.string _ _ _ (⟨#[]⟩ : ByteArray) [.string (⟨#[]⟩ : ByteArray)] from rfl) (Reps.one (show Kd.M Kd.string _ _ _ (⟨#[97]⟩ : ByteArray) [.string (⟨#[97]⟩ : ByteArray)] from rfl) (Reps.one (show Kd.M Kd.string _ _ _ (⟨#[65]⟩ : ByteArray) [.string (⟨#[65]⟩ : ByteArray)] from rfl) (Reps.none _ _)))))
        intro v387 w144 ho145 hb hg_ hnew_
        clear hg_ hnew_
        (first|rw [← Ny386.out] at ho145|(simp only [Int.reduceToNat] at ho145;rw [← Ny386.out] at ho145))
        have n0_:=zm_ (Kd.R_elder' zt11_8 (Kd.R_base ho145) hb)
        have n1_:=zm_ (Kd.N_elder' zt11_15 (Kd.R_base ho145) hb)
        have n2_:=zm_ (Kd.N_elder' zt11_17 (Kd.R_base ho145) hb)
        have n3_:=zm_ (Kd.R_lower (Kd.R_new' (Kd.R_newM (M:=fun k_ => (w.heap.size ≤ k_)) ho145 (keep_size (w:=w) (g:=g) (row:=none) zt11_6) (fun k_ h_ => h_)) (Kd.R_lt zt11_8)) (keep_size (w:=w) (g:=g) (row:=none) zt11_6))
        have n4_:=zm_ (IsS109.below zt11_7 hb)
        have n5_:=zm_ (blk_below (g:=gb342) (o:=.cells #[.slice none 0 0] 28 (0,0)) zt11_4 hb)
        have n6_:=zm_ (blk_below (g:=gb354) (o:=.cells #[.slice Ao128 t349.length co128] 28 (0,0)) zt11_9 hb)
        have n7_:=zm_ (blk_below (g:=gb361) (o:=.cells #[.slice Ao136 y358.length co136] 28 (0,0)) zt11_27 hb)
        have n8_:=zm_ (KeepBut.trans zt11_6 (KeepBut.of_below hb g none) (.inl rfl))
        have n9_:=zm_ (below_step zt11_28 hb)
        clear HO348
        clear HO351
        clear HO360
        clear HI0
        clear BK342
        clear BK354
        clear BK361
        clear HK
        clear HB
        have HO348:=n0_
        have HO351:=n1_
        have HO360:=n2_
        have HO388:=n3_
        have HI0:=n4_
        have BK342:=n5_
        have BK354:=n6_
        have BK361:=n7_
        have HK:=n8_
        have HB:=n9_
        clear n0_ n1_ n2_ n3_ n4_ n5_ n6_ n7_ n8_ n9_
        clear hb ho145
        obtain ⟨Ao146,co146,eo146⟩:=Kd.R_slice HO388.out
        (first|subst eo146|(injection eo146 with f1_ f2_ f3_;have f4_:=f1_.symm;have f5_:=f3_.symm;clear f1_ f2_ f3_;subst f4_;subst f5_))
        refine hK.out _ _ ((zc_ BK361.out 0).trans rfl) (fun hHeld => ?_)
        clear hK K
        refine norm_ (a':=?_) ?_ ?_
        rotate_left
        ·show Act.put _ (some 60) _ = _
         simp only [Act.put,List.setIfInBounds_toArray,List.set_cons_zero,List.set_cons_succ,i64_w,i32_w,IntKind.wrap_u8]
         rfl
        refine one_ (i:=5) (N:=some 61) #[true,true,true,true,true,true,false,false,false] rfl rfl (one_of HT_.out (by kernel_rfl)) (by decide) (fun K hK => ?_)
        refine goes_ Try.func78 (by kernel_rfl) rfl #[.pointer (some ⟨g,0,none⟩),.slice Ao146 y386.length co146] (by rfl) rfl rfl zq_ ?_
        with_reducible refine (spec_l01Pick.calls g s0_0 t363 t364 _ _ y386 t389 t390 t391 w0 _ ?side1 ?side2 ?side3 ?side4 ?side5 A117.out).mono ?_
        (case side1 => repeat (first|(with_reducible first|exact HI0.out|apply IsS109.alloc|apply IsS109.drewN|apply IsS109.drew|apply IsS109.set_1|apply IsS109.set_2|refine IsS109.far ?_ NB0_342.out _|refine IsS109.far ?_ NB0_354.out _|refine IsS109.far ?_ NB0_361.out _)|exact HI0.out))
        (case side2 => repeat (first|(with_reducible first|exact HB.out|apply za_|apply zn_|apply zd_|refine zs_ ?_ (IsS109.ge HI0.out)|refine zs_ ?_ GE342.out|refine zs_ ?_ GE354.out|refine zs_ ?_ GE361.out)|exact HB.out))
        (case side3 => repeat (first|exact (Kd.R_reads' HO388.out).2.2|(with_reducible refine Kd.C_alloc ?_ _)|(with_reducible refine Kd.C_drewN ?_ _)|(with_reducible refine Kd.C_drew ?_)))
        (case side4 => exact (Kd.R_reads' HO388.out).2.1)
        (case side5 => exact far_slice (IsS109.own_ne HI0.out HO388.out (by decide)))
        rintro e w147 ⟨rfl,hi,hb,hk⟩
        refine ⟨_,rfl,?_⟩
        have n0_:=zm_ (KeepBut.blk hk (g':=gb342) (o:=.cells #[.slice none 0 0] 28 (0,0)) zt11_4 NB342_0.out (by simp))
        have n1_:=zm_ (Kd.R_mono (Kd.R_keep (IsS109.apart (show IsS109 w0 _ g s0_0 t363 t364 from zt11_7) zt11_8 (by decide)) hk (fun _ h => h.2)) (fun _ h => h.1))
        have n2_:=zm_ (Kd.N_mono (Kd.N_keep (Kd.N_mono (ok:=fun k_ => ((((((w.heap.size ≤ k_)) ∧ (some k_ ≠ (.slice Ao125 y346.length co125 : Value).ownBlock ∧ (k_ ≠ gb342 ∧ (k_ ≠ g ∧ k_ ≠ gb354)))) ∧ some k_ ≠ (.slice Ao136 y358.length co136 : Value).ownBlock) ∧ k_ ≠ gb361) ∧ some k_ ≠ (.slice Ao146 y386.length co146 : Value).ownBlock)) zt11_15 (fun k_ hk_ => (⟨hk_,hk_.1.1.1.2.2.2.1⟩ : _ ∧ k_ ≠ g))) hk (fun _ h => h.2)) (fun _ h => h.1))
        have n3_:=zm_ (KeepBut.blk hk (g':=gb354) (o:=.cells #[.slice Ao128 t349.length co128] 28 (0,0)) zt11_9 NB354_0.out (by simp))
        have n4_:=zm_ (Kd.N_mono (Kd.N_keep (Kd.N_mono (ok:=fun k_ => (((((w.heap.size ≤ k_)) ∧ (some k_ ≠ (.slice Ao125 y346.length co125 : Value).ownBlock ∧ (k_ ≠ gb342 ∧ (k_ ≠ gb354 ∧ k_ ≠ g)))) ∧ k_ ≠ gb361) ∧ some k_ ≠ (.slice Ao146 y386.length co146 : Value).ownBlock)) zt11_17 (fun k_ hk_ => (⟨hk_,hk_.1.1.2.2.2.2⟩ : _ ∧ k_ ≠ g))) hk (fun _ h => h.2)) (fun _ h => h.1))
        have n5_:=zm_ (KeepBut.blk hk (g':=gb361) (o:=.cells #[.slice Ao136 y358.length co136] 28 (0,0)) zt11_27 NB361_0.out (by simp))
        have n6_:=zm_ (Kd.R_mono (Kd.R_keep (IsS109.apart (show IsS109 w0 _ g s0_0 t363 t364 from zt11_7) (by (with_reducible repeat (first|apply Kd.R_alloc|apply Kd.R_drewN|apply Kd.R_drew));exact HO388.out) (by decide)) hk (fun _ h => h.2)) (fun _ h => h.1))
        have n7_:=zm_ (KeepBut.trans zt11_6 hk (.inl rfl))
        have n8_:=zm_ (hb)
        have n9_:=zm_ (hi)
        clear BK342
        clear HO348
        clear HO351
        clear BK354
        clear HO360
        clear BK361
        clear HO388
        clear HK
        clear HB
        clear HI0
        have BK342:=n0_
        have HO348:=n1_
        have HO351:=n2_
        have BK354:=n3_
        have HO360:=n4_
        have BK361:=n5_
        have HO388:=n6_
        have HK:=n7_
        have HB:=n8_
        have HI0:=n9_
        clear n0_ n1_ n2_ n3_ n4_ n5_ n6_ n7_ n8_ n9_
        (try clear hb)
        (try clear hb2)
        (try clear hk)
        (try clear hi)
        have p120 : 0 ≤ (t362 : Int):=zo_
        have q120 : (t362 : Int) < ((y358.length : Int) : Int):=zo_
        obtain ⟨go120,co120,eo120,gb120,gl120,cl120,HG120⟩:=Kd.N_form HO360.out (by omega)
        (first|cases eo120|(injection eo120 with ea_ en_ ec_;(first|subst ea_|(injection ea_ with ea_;subst ea_));subst ec_;clear en_))
        have GB120:=zm_ gb120
        have GG120:=zm_ HG120
        clear gb120 gl120 HG120
        obtain ⟨ce120,hcl120,hM120,hcc120,hfr120⟩:=Kd.N_elem HO360.out z34 (t362 : Int) p120 q120
        obtain ⟨ua120_3,uc120_3,rfl,ul120_3,ge120_3⟩:=k34_openF hM120
        have hx120_0 : World.cell? _ ⟨go120,(t362 : Int).toNat * 4,none⟩ = some (.int .i64 ((rd_T34 y358 t362).f0)):=hcc120 0 _ rfl
        have hx120_1 : World.cell? _ ⟨go120,(t362 : Int).toNat * 4 + 1,none⟩ = some (.int .i64 ((rd_T34 y358 t362).f1)):=hcc120 1 _ rfl
        have hx120_2 : World.cell? _ ⟨go120,(t362 : Int).toNat * 4 + 2,none⟩ = some (.string ((rd_T34 y358 t362).f2)):=hcc120 2 _ rfl
        have hx120_3 : World.cell? _ ⟨go120,(t362 : Int).toNat * 4 + 3,none⟩ = some (.slice ua120_3 ((rd_T34 y358 t362).f3).length uc120_3):=hcc120 3 _ rfl
        have hf120_0 : World.frozen? _ ⟨go120,(t362 : Int).toNat * 4,none⟩ = false:=hfr120 0
        have hf120_1 : World.frozen? _ ⟨go120,(t362 : Int).toNat * 4 + 1,none⟩ = false:=hfr120 1
        have hf120_2 : World.frozen? _ ⟨go120,(t362 : Int).toNat * 4 + 2,none⟩ = false:=hfr120 2
        have hf120_3 : World.frozen? _ ⟨go120,(t362 : Int).toNat * 4 + 3,none⟩ = false:=hfr120 3
        clear hcl120 hcc120 hfr120 hM120
        replace p120:=eq_true p120
        replace q120:=eq_true q120
        have HN0_go120:=zm_ (show g ≠ go120 from by have h_:=IsS109.own_neN HI0.out HO360.out (by decide);intro e_;exact h_ (by rw [e_];rfl))
        have HX148:=zm_ (show Kd.N k34 34 _ w.heap.size (fun k_ => (w.heap.size ≤ k_) ∧ some k_ ≠ (.slice Ao125 y346.length co125 : Value).ownBlock ∧ some k_ ≠ (.slice Ao146 y386.length co146 : Value).ownBlock ∧ k_ ≠ gb342 ∧ k_ ≠ gb354 ∧ k_ ≠ gb361 ∧ k_ ≠ g) (.slice (some ⟨go120,0,none⟩) y358.length co136) y358 from (Kd.N_mono (HO360.out) (fun k_ hk => ⟨hk.1.1.1,⟨hk.1.1.2.1,⟨hk.2,⟨hk.1.1.2.2.1,⟨hk.1.1.2.2.2.1,⟨hk.1.2,hk.1.1.2.2.2.2⟩⟩⟩⟩⟩⟩)))
        obtain ⟨ce148,hcl148,hM148,hcc148,hfr148⟩:=Kd.N_elem HX148.out z34 (t362 : Int) (zo_) zt11_24
        obtain ⟨ua148_3,uc148_3,rfl,ul148_3,ge148_3⟩:=k34_openF hM148
        have HP148:=(Kd.N_seg HX148.out (t362 : Int) (zo_) zt11_24 (seg:=[.string t389]) (j:=2) hcl148 hcc148 (show 3 ≤ 4 from by decide) (x':=(⟨(rd_T34 y358 t362).f0,(rd_T34 y358 t362).f1,t389,(rd_T34 y358 t362).f3⟩ : S34)) (k34_mkF _ _ (⟨(rd_T34 y358 t362).f0,(rd_T34 y358 t362).f1,t389,(rd_T34 y358 t362).f3⟩ : S34) ul148_3 ge148_3) (fun _ hk => hk)).1
        rw [← Ny392.out] at HP148
        have HQ148:=zm_ HP148
        clear hcl148 hcc148 hfr148 hM148 HP148
        refine hK.out _ _ ((zc_ BK361.out 0).trans rfl) (fun hHeld => ?_)
        clear hK K
        refine norm_ (a':=?_) ?_ ?_
        rotate_left
        ·show Act.put _ (some 61) _ = _
         simp only [Act.put,List.setIfInBounds_toArray,List.set_cons_zero,List.set_cons_succ,i64_w,i32_w,IntKind.wrap_u8]
         rfl
        refine pure_ (i:=6) (N:=some 62) (v:=?_) (a':=?_) #[true,true,true,true,true,true,true,false,false] rfl rfl (any_of HT_.out (by kernel_rfl)) (fun _ _ _ h => h) (Or.inl ⟨by rfl,?_⟩) ?_ ?_
        rotate_left
        ·intro w'
         go_simp
         with_reducible rfl
        rotate_left
        ·simp only [Act.put,List.setIfInBounds_toArray,List.set_cons_zero,List.set_cons_succ,i64_w,i32_w,IntKind.wrap_u8]
         rfl
        refine pure_ (i:=7) (N:=some 63) (v:=?_) (a':=?_) #[true,true,true,true,true,true,true,true,false] rfl rfl (any_of HT_.out (by kernel_rfl)) (fun _ _ _ h => h) (Or.inl ⟨by rfl,?_⟩) ?_ ?_
        rotate_left
        ·intro w'
         go_simp
         with_reducible rfl
        rotate_left
        ·simp only [Act.put,List.setIfInBounds_toArray,List.set_cons_zero,List.set_cons_succ,i64_w,i32_w,IntKind.wrap_u8]
         rfl
        refine last_ (i:=8) (N:=none) #[true,true,true,true,true,true,true,true,true] rfl rfl (one_of HT_.out (by kernel_rfl)) (by decide) (fun K hK => ?_)
        refine skip_ (w1:=?_) (by rfl) rfl ?_ ?_
        rotate_left
        ·go_simp
         rfl
        refine hK.out _ _ ?_
        clear hK K
        refine done_ (done_of HT_.out (by kernel_rfl)) ?_
        have n0_ : Aside0 (Kd.R Kd.string 9 (w147.setCell ⟨go120,(t362 : Int).toNat * 4 + 2,none⟩ (.string t389)) w.heap.size (fun k_ => (w.heap.size ≤ k_) ∧ some k_ ≠ (.slice Ao146 y386.length co146 : Value).ownBlock) (.slice Ao125 y346.length co125) y346):=⟨by (with_reducible repeat (first|apply Kd.R_alloc|apply Kd.R_drewN|apply Kd.R_drew));exact Kd.R_mono (Kd.R_far (p:=⟨go120,(t362 : Int).toNat * 4 + 2,none⟩) (Kd.R_types HO348.out GG120.out (by decide)) (fun _ hk => hk.2) (.string t389)) (fun _ hk => ⟨hk.1.1.1,hk.1.2⟩)⟩
        have n1_ : Aside0 (Kd.N k34 34 (w147.setCell ⟨go120,(t362 : Int).toNat * 4 + 2,none⟩ (.string t389)) w.heap.size (fun k_ => (w.heap.size ≤ k_) ∧ some k_ ≠ (.slice Ao125 y346.length co125 : Value).ownBlock ∧ some k_ ≠ (.slice (some ⟨go120,0,none⟩) y358.length co136 : Value).ownBlock ∧ some k_ ≠ (.slice Ao146 y386.length co146 : Value).ownBlock ∧ k_ ≠ gb342 ∧ k_ ≠ g ∧ k_ ≠ gb354 ∧ k_ ≠ gb361) (.slice Ao128 t349.length co128) t349):=⟨by (with_reducible repeat (first|apply Kd.N_alloc|apply Kd.N_drewN|apply Kd.N_drew));exact Kd.N_mono (Kd.N_far (p:=⟨go120,(t362 : Int).toNat * 4 + 2,none⟩) (Kd.N_mono HO351.out (fun k_ hk => (⟨hk,fun e_ => hk.1.1.2 (by rw [e_];rfl)⟩ : _ ∧ k_ ≠ go120))) (fun _ hk => hk.2) (.string t389)) (fun _ hk => ⟨hk.1.1.1.1.1,⟨hk.1.1.1.1.2.1,⟨hk.1.1.1.2,⟨hk.1.2,⟨hk.1.1.1.1.2.2.1,⟨hk.1.1.1.1.2.2.2.1,⟨hk.1.1.1.1.2.2.2.2,hk.1.1.2⟩⟩⟩⟩⟩⟩⟩)⟩
        have n2_ : Aside0 (Kd.N k34 34 (w147.setCell ⟨go120,(t362 : Int).toNat * 4 + 2,none⟩ (.string t389)) w.heap.size (fun k_ => (w.heap.size ≤ k_) ∧ some k_ ≠ (.slice Ao125 y346.length co125 : Value).ownBlock ∧ some k_ ≠ (.slice Ao146 y386.length co146 : Value).ownBlock ∧ k_ ≠ gb342 ∧ k_ ≠ gb354 ∧ k_ ≠ g ∧ k_ ≠ gb361) (.slice (some ⟨go120,0,none⟩) y358.length co136) y392):=⟨by (with_reducible repeat (first|apply Kd.N_alloc|apply Kd.N_drewN|apply Kd.N_drew));exact Kd.N_mono HQ148.out (fun _ hk => ⟨hk.1,⟨hk.2.1,⟨hk.2.2.1,⟨hk.2.2.2.1,⟨hk.2.2.2.2.1,⟨hk.2.2.2.2.2.2,hk.2.2.2.2.2.1⟩⟩⟩⟩⟩⟩)⟩
        have n3_ : Aside0 (Kd.R Kd.string 9 (w147.setCell ⟨go120,(t362 : Int).toNat * 4 + 2,none⟩ (.string t389)) w.heap.size (fun k_ => (w.heap.size ≤ k_) ∧ some k_ ≠ (.slice Ao125 y346.length co125 : Value).ownBlock) (.slice Ao146 y386.length co146) y386):=⟨by (with_reducible repeat (first|apply Kd.R_alloc|apply Kd.R_drewN|apply Kd.R_drew));exact Kd.R_mono (Kd.R_far (p:=⟨go120,(t362 : Int).toNat * 4 + 2,none⟩) (Kd.R_types HO388.out GG120.out (by decide)) (fun _ hk => hk.2) (.string t389)) (fun _ hk => ⟨hk.1.1.1,hk.1.2⟩)⟩
        have n4_ : Aside0 ((w147.setCell ⟨go120,(t362 : Int).toNat * 4 + 2,none⟩ (.string t389)).heap[gb342]? = some (.cells #[.slice none 0 0] 28 (0,0))):=⟨by (with_reducible repeat first|refine zl_ ?_ _|refine zr_ ?_|refine zk_ ?_ _);refine blk_far ?_ zt11_52 _;(with_reducible repeat first|refine zl_ ?_ _|refine zr_ ?_|refine zk_ ?_ _);exact BK342.out⟩
        have n5_ : Aside0 ((w147.setCell ⟨go120,(t362 : Int).toNat * 4 + 2,none⟩ (.string t389)).heap[gb354]? = some (.cells #[.slice Ao128 t349.length co128] 28 (0,0))):=⟨by (with_reducible repeat first|refine zl_ ?_ _|refine zr_ ?_|refine zk_ ?_ _);refine blk_far ?_ zt11_53 _;(with_reducible repeat first|refine zl_ ?_ _|refine zr_ ?_|refine zk_ ?_ _);exact BK354.out⟩
        have n6_ : Aside0 ((w147.setCell ⟨go120,(t362 : Int).toNat * 4 + 2,none⟩ (.string t389)).heap[gb361]? = some (.cells #[.slice (some ⟨go120,0,none⟩) y358.length co136] 28 (0,0))):=⟨by (with_reducible repeat first|refine zl_ ?_ _|refine zr_ ?_|refine zk_ ?_ _);refine blk_far ?_ zt11_54 _;(with_reducible repeat first|refine zl_ ?_ _|refine zr_ ?_|refine zk_ ?_ _);exact BK361.out⟩
        have n7_ : Aside0 (IsS109 w0 (w147.setCell ⟨go120,(t362 : Int).toNat * 4 + 2,none⟩ (.string t389)) g s0_0 t390 t391):=⟨by repeat (first|(with_reducible first|exact HI0.out|apply IsS109.alloc|apply IsS109.drewN|apply IsS109.drew|apply IsS109.set_1|apply IsS109.set_2|refine IsS109.far ?_ HN0_go120.out _|refine IsS109.far ?_ NB0_342.out _|refine IsS109.far ?_ NB0_354.out _|refine IsS109.far ?_ NB0_361.out _)|exact HI0.out)⟩
        have n8_ : Aside0 (KeepBut w (w147.setCell ⟨go120,(t362 : Int).toNat * 4 + 2,none⟩ (.string t389)) g none):=⟨by repeat (first|(with_reducible first|exact HK.out|apply KeepBut.set_|apply keep_drewN|apply keep_drew|apply keep_alloc|refine keep_far ?_ GB120.out _|refine keep_far ?_ GW342.out _|refine keep_far ?_ GW354.out _|refine keep_far ?_ GW361.out _)|exact HK.out)⟩
        have n9_ : Aside0 (Below w0.heap.size w0 (w147.setCell ⟨go120,(t362 : Int).toNat * 4 + 2,none⟩ (.string t389))):=⟨by repeat (first|(with_reducible first|exact HB.out|apply za_|apply zn_|apply zd_|refine zs_ ?_ (Nat.le_trans HL.out GB120.out)|refine zs_ ?_ (IsS109.ge HI0.out)|refine zs_ ?_ GE342.out|refine zs_ ?_ GE354.out|refine zs_ ?_ GE361.out)|exact HB.out)⟩
        (try clear HO348)
        (try clear HO351)
        (try clear HO360)
        (try clear HO388)
        (try clear BK342)
        (try clear BK354)
        (try clear BK361)
        (try clear HI0)
        (try clear HK)
        (try clear HB)
        generalize (w147.setCell ⟨go120,(t362 : Int).toNat * 4 + 2,none⟩ (.string t389)) = w149 at n0_ n1_ n2_ n3_ n4_ n5_ n6_ n7_ n8_ n9_ ⊢
        have HO348:=n0_
        have HO351:=n1_
        have HO360:=n2_
        have HO388:=n3_
        have BK342:=n4_
        have BK354:=n5_
        have BK361:=n6_
        have HI0:=n7_
        have HK:=n8_
        have HB:=n9_
        clear n0_ n1_ n2_ n3_ n4_ n5_ n6_ n7_ n8_ n9_
        have hcz150_0 : w149.cell? ⟨gb361,0,none⟩ = some (.slice (some ⟨go120,0,none⟩) y358.length co136):=(zc_ BK361.out 0).trans rfl
        have hfz150_0:=zf_ BK361.out 0
        have hnb151:=NB342_0.out
        have hnc151:=NB0_342.out
        have hcz152_0 : w149.cell? ⟨gb342,0,none⟩ = some (.slice none 0 0):=(zc_ BK342.out 0).trans rfl
        have hfz152_0:=zf_ BK342.out 0
        try go_wp2
        refine bodyPost_ret (results_cell_row rfl _ _ gb342 28 #[.slice (some ⟨go120,0,none⟩) y358.length co136] (0,0) _ rfl zt11_26 Try.underlying28 rfl (by kernel_rfl)) rfl ?_
        exact ⟨_,by first|rfl|(simp [errW_none,errW_some] <;> rfl)|(simp [*,errW_none,errW_some] <;> rfl),by (with_reducible repeat (first|apply Kd.N_alloc|apply Kd.N_drewN|apply Kd.N_drew));exact Kd.N_mono (Kd.N_far (p:=⟨gb342,0,none⟩) (Kd.N_mono HO360.out (fun k_ hk => (⟨hk,hk.2.2.2.1⟩ : _ ∧ k_ ≠ gb342))) (fun _ hk => hk.2) (.slice (some ⟨go120,0,none⟩) y358.length co136)) (fun _ hk => hk.1.1),by repeat (first|(with_reducible first|exact HI0.out|apply IsS109.alloc|apply IsS109.drewN|apply IsS109.drew|apply IsS109.set_1|apply IsS109.set_2|refine IsS109.far ?_ NB0_342.out _|refine IsS109.far ?_ NB0_354.out _|refine IsS109.far ?_ NB0_361.out _)|exact HI0.out),by repeat (first|(with_reducible first|exact HB.out|apply za_|apply zn_|apply zd_|refine zs_ ?_ (IsS109.ge HI0.out)|refine zs_ ?_ GE342.out|refine zs_ ?_ GE354.out|refine zs_ ?_ GE361.out)|exact HB.out),by repeat (first|(with_reducible first|exact HK.out|apply KeepBut.set_|apply keep_drewN|apply keep_drew|apply keep_alloc|refine keep_far ?_ GW342.out _|refine keep_far ?_ GW354.out _|refine keep_far ?_ GW361.out _)|exact HK.out)⟩
       ·rw [if_neg c119] at H
        exact absurd H (by simp)
      ·rw [if_neg c118] at H
       exact absurd H (by simp)
     ·rw [if_neg c116] at H
      have c116b0 : (t343 == 3) = false:=beq_eq_false_iff_ne.mpr c116
      have c116b1 : (t343 != 3) = true:=bne_iff_ne.mpr c116
      by_cases c153 : t343 = 4
      ·rw [if_pos c153] at H
       have c153b0 : (t343 == 4) = true:=beq_iff_eq.mpr c153
       have c153b1 : (t343 != 4) = false:=bne_eq_false_iff_eq.mpr c153
       clear c153
       obtain ⟨y393,hy393⟩ : ∃ y_ : List (S34),y_ = (([] : List (S34))):=⟨_,rfl⟩
       replace H : (some (y393,t363,t364)) = some (r1,r2,r3):=by first|(rw [hy393];with_reducible exact H)|(have H2_:=(Option.bind_some _ _).symm.trans H;rw [hy393];with_reducible exact H2_)|(have H2_:=(Option.bind_some _ _).symm.trans H;with_reducible exact H2_)|with_reducible exact H|(rw [hy393];exact H)|exact H
       have Ny393:=zm_ hy393
       clear hy393
       simp only [Option.some.injEq,Prod.mk.injEq] at H
       obtain ⟨rfl,rfl,rfl⟩:=H
       go_enter Try.func47,Try.ntmps47
       go_wp2_with (first|((with_reducible refine gate_dst (N:=2) rfl ?_);refine box_event ?hg (N:=2) ?hd (cs:=#[.slice none 0 0]) (t:=28) ?hr ?_;(case hd => rfl);(case hg => rfl);(case hr => first|(go_simp;done)|(go_simp;rfl));intro gb342 hg w154 hbox hb;have n0_:=zm_ (IsS109.below zt11_11 hb);have n1_:=zm_ (KeepBut.trans zt11_13 (KeepBut.of_below hb g none) (.inl rfl));have n2_:=zm_ (below_step zt11_29 hb);have n3_:=zm_ (hbox);have n4_:=zm_ ((zt11_30 : w.heap.size ≤ gb342));have n5_:=zm_ ((Nat.le_trans HW0.out (zt11_30 : w.heap.size ≤ gb342) : w0.heap.size ≤ gb342));have n6_:=zm_ ((zt11_34 : g ≠ gb342));have n7_:=zm_ ((zt11_35 : gb342 ≠ g));clear HI0;clear HK;clear HB;have HI0:=n0_;have HK:=n1_;have HB:=n2_;have BK342:=n3_;have GW342:=n4_;have GE342:=n5_;have NB0_342:=n6_;have NB342_0:=n7_;clear n0_ n1_ n2_ n3_ n4_ n5_ n6_ n7_;clear hb hbox hg)|((with_reducible refine gate_callee (f:=43) rfl ?_);refine goesL_ (some 8) rfl rfl Try.func43 (by kernel_rfl) rfl #[.pointer (some ⟨g,0,none⟩),.int .i64 16] rfl zq_ ?_;(with_reducible refine (spec_l01Below.calls g s0_0 s0_1 s0_2 16 t343 t344 t345 w0 _ ?side1 ?side2 A2.out).mono ?_);(case side1 => repeat (first|(with_reducible first|exact HI0.out|apply IsS109.alloc|apply IsS109.drewN|apply IsS109.drew|apply IsS109.set_1|apply IsS109.set_2|refine IsS109.far ?_ NB0_342.out _)|exact HI0.out));(case side2 => repeat (first|(with_reducible first|exact HB.out|apply za_|apply zn_|apply zd_|refine zs_ ?_ (IsS109.ge HI0.out)|refine zs_ ?_ GE342.out)|exact HB.out));rintro e w155 ⟨rfl,hi,hb,hk⟩;refine ⟨_,rfl,?_⟩;have n0_:=zm_ (KeepBut.blk hk (g':=gb342) (o:=.cells #[.slice none 0 0] 28 (0,0)) zt11_4 NB342_0.out (by simp));have n1_:=zm_ (KeepBut.trans zt11_2 hk (.inl rfl));have n2_:=zm_ (hb);have n3_:=zm_ (hi);clear BK342;clear HK;clear HB;clear HI0;have BK342:=n0_;have HK:=n1_;have HB:=n2_;have HI0:=n3_;clear n0_ n1_ n2_ n3_;(try clear hb);(try clear hb2);(try clear hk);(try clear hi))|((with_reducible refine gate_dst (N:=10) rfl ?_);refine Kd.R_lit Kd.string _ 9 ?hg (N:=10) ?hd (xs:=([(⟨#[97]⟩ : ByteArray),(⟨#[98]⟩ : ByteArray),(⟨#[110]⟩ : ByteArray)] : List ByteArray)) (inner:=[.string (⟨#[97]⟩ : ByteArray),.string (⟨#[98]⟩ : ByteArray),.string (⟨#[110]⟩ : ByteArray)]) (ok:=fun _ => True) (okp:=fun _ => True) ?hr ?hp (fun _ hk => hk) trivial (Below.refl _ _) (Nat.le_refl _) (by simp) ?_;(case hd => rfl);(case hg => rfl);(case hr => first|(go_simp;done)|(go_simp;rfl));(case hp => exact (Reps.one (show Kd.M Kd.string _ _ _ (⟨#[97]⟩ : ByteArray) [.string (⟨#[97]⟩ : ByteArray)] from rfl) (Reps.one (show Kd.M Kd.string _ _ _ (⟨#[98]⟩ : ByteArray) [.string (⟨#[98]⟩ : ByteArray)] from rfl) (Reps.one (show Kd.M Kd.string _ _ _ (⟨#[110]⟩ : ByteArray) [.string (⟨#[110]⟩ : ByteArray)] from rfl) (Reps.none _ _)))));intro v347 w156 ho157 hb hg_ hnew_;clear hg_ hnew_;(first|rw [← Ny346.out] at ho157|(simp only [Int.reduceToNat] at ho157;rw [← Ny346.out] at ho157));have n0_:=zm_ (Kd.R_lower (Kd.R_newM (M:=fun k_ => (w.heap.size ≤ k_)) ho157 (keep_size (w:=w) (g:=g) (row:=none) zt11_2) (fun k_ h_ => h_)) (keep_size (w:=w) (g:=g) (row:=none) zt11_2));have n1_:=zm_ (IsS109.below zt11_5 hb);have n2_:=zm_ (blk_below (g:=gb342) (o:=.cells #[.slice none 0 0] 28 (0,0)) zt11_4 hb);have n3_:=zm_ (KeepBut.trans zt11_2 (KeepBut.of_below hb g none) (.inl rfl));have n4_:=zm_ (below_step zt11_16 hb);clear HI0;clear BK342;clear HK;clear HB;have HO348:=n0_;have HI0:=n1_;have BK342:=n2_;have HK:=n3_;have HB:=n4_;clear n0_ n1_ n2_ n3_ n4_;clear hb ho157;obtain ⟨Ao158,co158,eo158⟩:=Kd.R_slice HO348.out;subst eo158)|((with_reducible refine gate_callee (f:=53) rfl ?_);refine goesL_ (some 11) rfl rfl Try.func53 (by kernel_rfl) rfl #[.pointer (some ⟨g,0,none⟩),.slice Ao158 y346.length co158,.int .i64 2] rfl zq_ ?_;(with_reducible refine (spec_l04Expr.calls g s0_0 t344 t345 _ _ y346 2 t349 t352 t353 w0 _ ?side1 ?side2 ?side3 ?side4 ?side5 A3.out).mono ?_);(case side1 => repeat (first|(with_reducible first|exact HI0.out|apply IsS109.alloc|apply IsS109.drewN|apply IsS109.drew|apply IsS109.set_1|apply IsS109.set_2|refine IsS109.far ?_ NB0_342.out _)|exact HI0.out));(case side2 => repeat (first|(with_reducible first|exact HB.out|apply za_|apply zn_|apply zd_|refine zs_ ?_ (IsS109.ge HI0.out)|refine zs_ ?_ GE342.out)|exact HB.out));(case side3 => repeat (first|exact (Kd.R_reads' HO348.out).2.2|(with_reducible refine Kd.C_alloc ?_ _)|(with_reducible refine Kd.C_drewN ?_ _)|(with_reducible refine Kd.C_drew ?_)));(case side4 => exact (Kd.R_reads' HO348.out).2.1);(case side5 => exact far_slice (IsS109.own_ne HI0.out HO348.out (by decide)));rintro e w159 ⟨v350,rfl,ho0,hi,hb,hk⟩;refine ⟨_,rfl,?_⟩;have n0_:=zm_ (KeepBut.blk hk (g':=gb342) (o:=.cells #[.slice none 0 0] 28 (0,0)) zt11_4 NB342_0.out (by simp));have n1_:=zm_ (Kd.R_mono (Kd.R_keep (IsS109.apart (show IsS109 w0 _ g s0_0 t344 t345 from zt11_5) zt11_8 (by decide)) hk (fun _ h => h.2)) (fun _ h => h.1));have n2_:=zm_ (Kd.N_lower (Kd.N_mono (ok':=fun k_ => (w.heap.size ≤ k_) ∧ some k_ ≠ (.slice Ao158 y346.length co158 : Value).ownBlock ∧ k_ ≠ gb342 ∧ k_ ≠ g) (Kd.S_N (Kd.S_bound ho0)) (fun k_ hk_ => ⟨(Nat.le_trans (keep_size (w:=w) (g:=g) (row:=none) zt11_2) hk_.2.1),(Kd.fresh' (Kd.R_lt zt11_8) k_ hk_.2.1),(Kd.freshB (g:=gb342) (o:=.cells #[.slice none 0 0] 28 (0,0)) zt11_4 k_ hk_.2.1),(IsS109.fresh zt11_5 k_ hk_.2.1)⟩)) (keep_size (w:=w) (g:=g) (row:=none) zt11_2));have n3_:=zm_ (KeepBut.trans zt11_2 hk (.inl rfl));have n4_:=zm_ (hb);have n5_:=zm_ (hi);clear BK342;clear HO348;clear HK;clear HB;clear HI0;have BK342:=n0_;have HO348:=n1_;have HO351:=n2_;have HK:=n3_;have HB:=n4_;have HI0:=n5_;clear n0_ n1_ n2_ n3_ n4_ n5_;(try clear hb);(try clear hb2);(try clear hk);(try clear hi);(try clear ho0))|((with_reducible refine gate_dst (N:=4) rfl ?_);refine box_event ?hg (N:=4) ?hd (cs:=#[.slice none 0 0]) (t:=28) ?hr ?_;(case hd => rfl);(case hg => rfl);(case hr => first|(go_simp;done)|(go_simp;rfl));intro gb354 hg w160 hbox hb;have n0_:=zm_ (Kd.R_below zt11_8 hb);have n1_:=zm_ (Kd.N_below (Kd.N_elderB zt11_15 gb354 (Nat.le_of_eq hg.symm)) hb);have n2_:=zm_ (IsS109.below zt11_5 hb);have n3_:=zm_ (blk_below (g:=gb342) (o:=.cells #[.slice none 0 0] 28 (0,0)) zt11_4 hb);have n4_:=zm_ (KeepBut.trans zt11_2 (KeepBut.of_below hb g none) (.inl rfl));have n5_:=zm_ (below_step zt11_16 hb);have n6_:=zm_ (hbox);have n7_:=zm_ ((zt11_31 : w.heap.size ≤ gb354));have n8_:=zm_ ((Nat.le_trans HW0.out (zt11_31 : w.heap.size ≤ gb354) : w0.heap.size ≤ gb354));have n9_:=zm_ ((zt11_19 : gb342 ≠ gb354));have n10_:=zm_ ((zt11_20 : gb354 ≠ gb342));have n11_:=zm_ ((zt11_36 : g ≠ gb354));have n12_:=zm_ ((zt11_37 : gb354 ≠ g));clear HO348;clear HO351;clear HI0;clear BK342;clear HK;clear HB;have HO348:=n0_;have HO351:=n1_;have HI0:=n2_;have BK342:=n3_;have HK:=n4_;have HB:=n5_;have BK354:=n6_;have GW354:=n7_;have GE354:=n8_;have NB342_354:=n9_;have NB354_342:=n10_;have NB0_354:=n11_;have NB354_0:=n12_;clear n0_ n1_ n2_ n3_ n4_ n5_ n6_ n7_ n8_ n9_ n10_ n11_ n12_;clear hb hbox hg;obtain ⟨Ao161,co161,eo161⟩:=Kd.N_slice HO351.out;subst eo161;have hnb162:=NB354_342.out;have hnc162:=NB342_354.out;have hnb163:=NB354_0.out;have hnc163:=NB0_354.out;have hcz164_0 : w160.cell? ⟨gb354,0,none⟩ = some (.slice none 0 0):=(zc_ BK354.out 0).trans rfl;have hfz164_0:=zf_ BK354.out 0)|((with_reducible refine gate_dst (N:=12) rfl ?_);refine Kd.N_lit k34 _ 34 ?hg (N':=12) ?hd (xs:=([] : List (S34))) (inner:=[]) (ok:=(fun k_ => (w.heap.size ≤ k_) ∧ some k_ ≠ (.slice Ao158 y346.length co158 : Value).ownBlock ∧ some k_ ≠ (.slice Ao161 t349.length co161 : Value).ownBlock ∧ k_ ≠ gb342 ∧ k_ ≠ gb354 ∧ k_ ≠ g)) (okp:=(fun k_ => (w.heap.size ≤ k_) ∧ some k_ ≠ (.slice Ao158 y346.length co158 : Value).ownBlock ∧ some k_ ≠ (.slice Ao161 t349.length co161 : Value).ownBlock ∧ k_ ≠ gb342 ∧ k_ ≠ gb354 ∧ k_ ≠ g)) ?hr ?hp (fun _ hk => hk) ((show ∀ k_,(w160.setCell ⟨gb354,0,none⟩ (.slice Ao161 t349.length co161)).heap.size ≤ k_ → (fun k_ => (w.heap.size ≤ k_) ∧ some k_ ≠ (.slice Ao158 y346.length co158 : Value).ownBlock ∧ some k_ ≠ (.slice Ao161 t349.length co161 : Value).ownBlock ∧ k_ ≠ gb342 ∧ k_ ≠ gb354 ∧ k_ ≠ g) k_ from fun k_ hk => ⟨(Nat.le_trans (keep_size (w:=w) (g:=g) (row:=none) zt11_1) hk),Kd.fresh' (Kd.R_lt zt11_47) k_ hk,Kd.fresh' (Kd.N_lt zt11_41) k_ hk,Kd.freshB (g:=gb342) (o:=.cells #[.slice none 0 0] 28 (0,0)) zt11_14 k_ hk,Kd.freshB (g:=gb354) (o:=.cells #[.slice Ao161 t349.length co161] 28 (0,0)) zt11_12 k_ hk,IsS109.fresh zt11_3 k_ hk⟩) _ (Nat.le_refl _)) (Below.refl _ _) (Nat.le_refl _) (by simp) ?_;(case hd => rfl);(case hg => rfl);(case hr => first|(go_simp;done)|(go_simp;rfl));(case hp => exact (Reps.none _ _));intro v356 w165 ho166 hb hg_ hnew_;clear hg_ hnew_;(first|rw [← Ny355.out] at ho166|(simp only [Int.reduceToNat] at ho166;rw [← Ny355.out] at ho166));have n0_:=zm_ (Kd.R_below zt11_47 hb);have n1_:=zm_ (Kd.N_elder' zt11_41 (Kd.N_base ho166) hb);have n2_:=zm_ (Kd.N_lower ho166 (keep_size (w:=w) (g:=g) (row:=none) zt11_1));have n3_:=zm_ (IsS109.below (show IsS109 w0 (w160.setCell ⟨gb354,0,none⟩ (.slice Ao161 t349.length co161)) g s0_0 t352 t353 from zt11_3) hb);have n4_:=zm_ (blk_below (g:=gb342) (o:=.cells #[.slice none 0 0] 28 (0,0)) zt11_14 hb);have n5_:=zm_ (blk_below (g:=gb354) (o:=.cells #[.slice Ao161 t349.length co161] 28 (0,0)) zt11_12 hb);have n6_:=zm_ (KeepBut.trans zt11_1 (KeepBut.of_below hb g none) (.inl rfl));have n7_:=zm_ (below_step zt11_10 hb);clear HO348;clear HO351;clear HI0;clear BK342;clear BK354;clear HK;clear HB;have HO348:=n0_;have HO351:=n1_;have HO357:=n2_;have HI0:=n3_;have BK342:=n4_;have BK354:=n5_;have HK:=n6_;have HB:=n7_;clear n0_ n1_ n2_ n3_ n4_ n5_ n6_ n7_;clear hb ho166;have hcz167_0 : w165.cell? ⟨gb354,0,none⟩ = some (.slice Ao161 t349.length co161):=(zc_ BK354.out 0).trans rfl;have hfz167_0:=zf_ BK354.out 0)|((with_reducible refine gate_builtin (b:=.append) (xs:=#[.tmp 12,.tmp 14]) rfl ?_);at_builtin;refine Kd.N_append_rows k34 w.heap.size rfl (.tmp 12) (.tmp 14) 26 34 (.agg #[(.int .i64 0),(.int .i64 0),(.string ⟨#[]⟩),(.slice none 0 0)]) 56 rfl Try.underlying26 info34 rfl (by decide) (by omega) v356 y355 t349 _ _ _ (fun k_ => (w.heap.size ≤ k_) ∧ some k_ ≠ (.slice Ao158 y346.length co158 : Value).ownBlock ∧ k_ ≠ gb342 ∧ k_ ≠ gb354 ∧ k_ ≠ g) (fun k_ => ((fun k_ => (w.heap.size ≤ k_) ∧ some k_ ≠ (.slice Ao158 y346.length co158 : Value).ownBlock ∧ k_ ≠ gb342 ∧ k_ ≠ gb354 ∧ k_ ≠ g)) k_ ∧ some k_ ≠ (v356 : Value).ownBlock) rfl rfl ?aO ?aR (fun _ hk => hk) ?aF (Below.refl _ _) ?aS ?aL ?_;(case aR => exact (by skip;exact Kd.N_F (Kd.N_mono (ok':=(fun k_ => ((fun k_ => (w.heap.size ≤ k_) ∧ some k_ ≠ (.slice Ao158 y346.length co158 : Value).ownBlock ∧ k_ ≠ gb342 ∧ k_ ≠ gb354 ∧ k_ ≠ g)) k_ ∧ some k_ ≠ (v356 : Value).ownBlock)) (HO351.out) (fun k_ hk => ⟨⟨hk.1.1.1,⟨hk.1.1.2.1,⟨hk.1.1.2.2.1,⟨hk.1.2,hk.1.1.2.2.2⟩⟩⟩⟩,hk.2⟩))));(case aF => exact (fun k_ hk => ⟨(Nat.le_trans (keep_size (w:=w) (g:=g) (row:=none) zt11_1) hk),Kd.fresh' (Kd.R_lt zt11_8) k_ hk,Kd.freshB (g:=gb342) (o:=.cells #[.slice none 0 0] 28 (0,0)) zt11_4 k_ hk,Kd.freshB (g:=gb354) (o:=.cells #[.slice Ao161 t349.length co161] 28 (0,0)) zt11_9 k_ hk,IsS109.fresh zt11_3 k_ hk⟩));(case aO => exact zt11_25);(case aS => exact (keep_size (w:=w) (g:=g) (row:=none) zt11_1));(case aL => have:=LMc4.out;omega);intro v359 w168 ho hb hg hat;rw [← Ny358.out] at ho;have n0_:=zm_ (IsS109.grown zt11_3 hg (IsS109.own_neN HI0.out HO357.out (by decide)));have n1_:=zm_ (blk_grown (g:=gb342) (o:=.cells #[.slice none 0 0] 28 (0,0)) zt11_4 hg (Kd.N_ne HO357.out BK342.out (by decide)));have n2_:=zm_ (Kd.R_over' zt11_8 (Kd.N_typed zt11_33) (by decide) hg);have n3_:=zm_ (Kd.N_afterv (ok:=(fun k_ => (w.heap.size ≤ k_) ∧ some k_ ≠ (.slice Ao158 y346.length co158 : Value).ownBlock ∧ k_ ≠ gb342 ∧ k_ ≠ g ∧ k_ ≠ gb354)) zt11_23 hg hat);have n4_:=zm_ (blk_grown (g:=gb354) (o:=.cells #[.slice Ao161 t349.length co161] 28 (0,0)) zt11_9 hg (Kd.N_ne HO357.out BK354.out (by decide)));have n5_:=zm_ (below_weaken zt11_10 HL.out hb);have n6_:=zm_ (KeepBut.trans zt11_1 (KeepBut.of_grown hg g) (Kd.N_base2 HO357.out));have n7_:=zm_ (ho);clear HI0;clear BK342;clear HO348;clear HO351;clear BK354;clear HB;clear HK;clear HO357;have HI0:=n0_;have BK342:=n1_;have HO348:=n2_;have HO351:=n3_;have BK354:=n4_;have HB:=n5_;have HK:=n6_;have HO360:=n7_;clear n0_ n1_ n2_ n3_ n4_ n5_ n6_ n7_;clear ho hb hg hat;obtain ⟨Ao169,co169,eo169⟩:=Kd.N_slice HO360.out;subst eo169)|((with_reducible refine gate_dst (N:=5) rfl ?_);refine box_event ?hg (N:=5) ?hd (cs:=#[.slice none 0 0]) (t:=28) ?hr ?_;(case hd => rfl);(case hg => rfl);(case hr => first|(go_simp;done)|(go_simp;rfl));intro gb361 hg w170 hbox hb;have n0_:=zm_ (Kd.R_below zt11_8 hb);have n1_:=zm_ (Kd.N_below (Kd.N_elderB zt11_15 gb361 (Nat.le_of_eq hg.symm)) hb);have n2_:=zm_ (Kd.N_below (Kd.N_elderB zt11_17 gb361 (Nat.le_of_eq hg.symm)) hb);have n3_:=zm_ (IsS109.below zt11_3 hb);have n4_:=zm_ (blk_below (g:=gb342) (o:=.cells #[.slice none 0 0] 28 (0,0)) zt11_4 hb);have n5_:=zm_ (blk_below (g:=gb354) (o:=.cells #[.slice Ao161 t349.length co161] 28 (0,0)) zt11_9 hb);have n6_:=zm_ (KeepBut.trans zt11_1 (KeepBut.of_below hb g none) (.inl rfl));have n7_:=zm_ (below_step zt11_10 hb);have n8_:=zm_ (hbox);have n9_:=zm_ ((zt11_32 : w.heap.size ≤ gb361));have n10_:=zm_ ((Nat.le_trans HW0.out (zt11_32 : w.heap.size ≤ gb361) : w0.heap.size ≤ gb361));have n11_:=zm_ ((zt11_19 : gb342 ≠ gb361));have n12_:=zm_ ((zt11_20 : gb361 ≠ gb342));have n13_:=zm_ ((by rw [hg];exact Nat.ne_of_lt (blk_lt (g:=gb354) (o:=.cells #[.slice Ao161 t349.length co161] 28 (0,0)) zt11_9) : gb354 ≠ gb361));have n14_:=zm_ ((by rw [hg];exact Nat.ne_of_gt (blk_lt (g:=gb354) (o:=.cells #[.slice Ao161 t349.length co161] 28 (0,0)) zt11_9) : gb361 ≠ gb354));have n15_:=zm_ ((zt11_38 : g ≠ gb361));have n16_:=zm_ ((zt11_39 : gb361 ≠ g));clear HO348;clear HO351;clear HO360;clear HI0;clear BK342;clear BK354;clear HK;clear HB;have HO348:=n0_;have HO351:=n1_;have HO360:=n2_;have HI0:=n3_;have BK342:=n4_;have BK354:=n5_;have HK:=n6_;have HB:=n7_;have BK361:=n8_;have GW361:=n9_;have GE361:=n10_;have NB342_361:=n11_;have NB361_342:=n12_;have NB354_361:=n13_;have NB361_354:=n14_;have NB0_361:=n15_;have NB361_0:=n16_;clear n0_ n1_ n2_ n3_ n4_ n5_ n6_ n7_ n8_ n9_ n10_ n11_ n12_ n13_ n14_ n15_ n16_;clear hb hbox hg;have hnb171:=NB361_342.out;have hnc171:=NB342_361.out;have hnb172:=NB361_354.out;have hnc172:=NB354_361.out;have hnb173:=NB361_0.out;have hnc173:=NB0_361.out;have hcz174_0 : w170.cell? ⟨gb361,0,none⟩ = some (.slice none 0 0):=(zc_ BK361.out 0).trans rfl;have hfz174_0:=zf_ BK361.out 0)|((with_reducible refine gate_callee (f:=43) rfl ?_);refine goesL_ (some 21) rfl rfl Try.func43 (by kernel_rfl) rfl #[.pointer (some ⟨g,0,none⟩),.int .i64 (y358.length : Int)] rfl zq_ ?_;(with_reducible refine (spec_l01Below.calls g s0_0 t352 t353 (y358.length : Int) t362 t363 t364 w0 _ ?side1 ?side2 A5.out).mono ?_);(case side1 => repeat (first|(with_reducible first|exact HI0.out|apply IsS109.alloc|apply IsS109.drewN|apply IsS109.drew|apply IsS109.set_1|apply IsS109.set_2|refine IsS109.far ?_ NB0_342.out _|refine IsS109.far ?_ NB0_354.out _|refine IsS109.far ?_ NB0_361.out _)|exact HI0.out));(case side2 => repeat (first|(with_reducible first|exact HB.out|apply za_|apply zn_|apply zd_|refine zs_ ?_ (IsS109.ge HI0.out)|refine zs_ ?_ GE342.out|refine zs_ ?_ GE354.out|refine zs_ ?_ GE361.out)|exact HB.out));rintro e w175 ⟨rfl,hi,hb,hk⟩;refine ⟨_,rfl,?_⟩;have n0_:=zm_ (KeepBut.blk hk (g':=gb342) (o:=.cells #[.slice none 0 0] 28 (0,0)) zt11_21 NB342_0.out (by simp));have n1_:=zm_ (Kd.R_mono (Kd.R_keep (IsS109.apart (show IsS109 w0 _ g s0_0 t352 t353 from zt11_7) (by (with_reducible repeat (first|apply Kd.R_alloc|apply Kd.R_drewN|apply Kd.R_drew));exact (Kd.R_mono (Kd.R_far (p:=⟨gb361,0,none⟩) (Kd.R_types HO348.out BK361.out (by decide)) (fun _ hk => hk.2) (.slice Ao169 y358.length co169)) (fun _ h_ => h_.1))) (by decide)) hk (fun _ h => h.2)) (fun _ h => h.1));have n2_:=zm_ (Kd.N_mono (Kd.N_keep (Kd.N_mono (ok:=fun k_ => (((((w.heap.size ≤ k_)) ∧ (some k_ ≠ (.slice Ao158 y346.length co158 : Value).ownBlock ∧ (k_ ≠ gb342 ∧ (k_ ≠ g ∧ k_ ≠ gb354)))) ∧ some k_ ≠ (.slice Ao169 y358.length co169 : Value).ownBlock) ∧ k_ ≠ gb361)) (by (with_reducible repeat (first|apply Kd.N_alloc|apply Kd.N_drewN|apply Kd.N_drew));exact (Kd.N_mono (Kd.N_far (p:=⟨gb361,0,none⟩) (Kd.N_mono HO351.out (fun k_ hk => (⟨hk,hk.2⟩ : _ ∧ k_ ≠ gb361))) (fun _ hk => hk.2) (.slice Ao169 y358.length co169)) (fun _ h_ => h_.1))) (fun k_ hk_ => (⟨hk_,hk_.1.1.2.2.2.1⟩ : _ ∧ k_ ≠ g))) hk (fun _ h => h.2)) (fun _ h => h.1));have n3_:=zm_ (KeepBut.blk hk (g':=gb354) (o:=.cells #[.slice Ao161 t349.length co161] 28 (0,0)) zt11_22 NB354_0.out (by simp));have n4_:=zm_ (Kd.N_mono (Kd.N_keep (Kd.N_mono (ok:=fun k_ => ((((w.heap.size ≤ k_)) ∧ (some k_ ≠ (.slice Ao158 y346.length co158 : Value).ownBlock ∧ (k_ ≠ gb342 ∧ (k_ ≠ gb354 ∧ k_ ≠ g)))) ∧ k_ ≠ gb361)) (by (with_reducible repeat (first|apply Kd.N_alloc|apply Kd.N_drewN|apply Kd.N_drew));exact (Kd.N_mono (Kd.N_far (p:=⟨gb361,0,none⟩) (Kd.N_mono HO360.out (fun k_ hk => (⟨hk,hk.2⟩ : _ ∧ k_ ≠ gb361))) (fun _ hk => hk.2) (.slice Ao169 y358.length co169)) (fun _ h_ => h_.1))) (fun k_ hk_ => (⟨hk_,hk_.1.2.2.2.2⟩ : _ ∧ k_ ≠ g))) hk (fun _ h => h.2)) (fun _ h => h.1));have n5_:=zm_ (KeepBut.blk hk (g':=gb361) (o:=.cells #[.slice Ao169 y358.length co169] 28 (0,0)) zt11_18 NB361_0.out (by simp));have n6_:=zm_ (KeepBut.trans zt11_6 hk (.inl rfl));have n7_:=zm_ (hb);have n8_:=zm_ (hi);clear BK342;clear HO348;clear HO351;clear BK354;clear HO360;clear BK361;clear HK;clear HB;clear HI0;have BK342:=n0_;have HO348:=n1_;have HO351:=n2_;have BK354:=n3_;have HO360:=n4_;have BK361:=n5_;have HK:=n6_;have HB:=n7_;have HI0:=n8_;clear n0_ n1_ n2_ n3_ n4_ n5_ n6_ n7_ n8_;(try clear hb);(try clear hb2);(try clear hk);(try clear hi))|((with_reducible refine gate_dst (N:=66) rfl ?_);refine Kd.N_lit k34 _ 34 ?hg (N':=66) ?hd (xs:=([] : List (S34))) (inner:=[]) (ok:=(fun k_ => (w.heap.size ≤ k_) ∧ some k_ ≠ (.slice Ao158 y346.length co158 : Value).ownBlock ∧ some k_ ≠ (.slice Ao161 t349.length co161 : Value).ownBlock ∧ some k_ ≠ (.slice Ao169 y358.length co169 : Value).ownBlock ∧ k_ ≠ gb342 ∧ k_ ≠ gb354 ∧ k_ ≠ gb361 ∧ k_ ≠ g)) (okp:=(fun k_ => (w.heap.size ≤ k_) ∧ some k_ ≠ (.slice Ao158 y346.length co158 : Value).ownBlock ∧ some k_ ≠ (.slice Ao161 t349.length co161 : Value).ownBlock ∧ some k_ ≠ (.slice Ao169 y358.length co169 : Value).ownBlock ∧ k_ ≠ gb342 ∧ k_ ≠ gb354 ∧ k_ ≠ gb361 ∧ k_ ≠ g)) ?hr ?hp (fun _ hk => hk) ((show ∀ k_,w175.heap.size ≤ k_ → (fun k_ => (w.heap.size ≤ k_) ∧ some k_ ≠ (.slice Ao158 y346.length co158 : Value).ownBlock ∧ some k_ ≠ (.slice Ao161 t349.length co161 : Value).ownBlock ∧ some k_ ≠ (.slice Ao169 y358.length co169 : Value).ownBlock ∧ k_ ≠ gb342 ∧ k_ ≠ gb354 ∧ k_ ≠ gb361 ∧ k_ ≠ g) k_ from fun k_ hk => ⟨(Nat.le_trans (keep_size (w:=w) (g:=g) (row:=none) zt11_6) hk),Kd.fresh' (Kd.R_lt zt11_8) k_ hk,Kd.fresh' (Kd.N_lt zt11_15) k_ hk,Kd.fresh' (Kd.N_lt zt11_17) k_ hk,Kd.freshB (g:=gb342) (o:=.cells #[.slice none 0 0] 28 (0,0)) zt11_4 k_ hk,Kd.freshB (g:=gb354) (o:=.cells #[.slice Ao161 t349.length co161] 28 (0,0)) zt11_9 k_ hk,Kd.freshB (g:=gb361) (o:=.cells #[.slice Ao169 y358.length co169] 28 (0,0)) zt11_27 k_ hk,IsS109.fresh zt11_7 k_ hk⟩) _ (Nat.le_refl _)) (Below.refl _ _) (Nat.le_refl _) (by simp) ?_;(case hd => rfl);(case hg => rfl);(case hr => first|(go_simp;done)|(go_simp;rfl));(case hp => exact (Reps.none _ _));intro v394 w176 ho177 hb hg_ hnew_;clear hg_ hnew_;(first|rw [← Ny393.out] at ho177|(simp only [Int.reduceToNat] at ho177;rw [← Ny393.out] at ho177));have n0_:=zm_ (Kd.R_below zt11_8 hb);have n1_:=zm_ (Kd.N_elder' zt11_15 (Kd.N_base ho177) hb);have n2_:=zm_ (Kd.N_elder' zt11_17 (Kd.N_base ho177) hb);have n3_:=zm_ (Kd.N_lower ho177 (keep_size (w:=w) (g:=g) (row:=none) zt11_6));have n4_:=zm_ (IsS109.below zt11_7 hb);have n5_:=zm_ (blk_below (g:=gb342) (o:=.cells #[.slice none 0 0] 28 (0,0)) zt11_4 hb);have n6_:=zm_ (blk_below (g:=gb354) (o:=.cells #[.slice Ao161 t349.length co161] 28 (0,0)) zt11_9 hb);have n7_:=zm_ (blk_below (g:=gb361) (o:=.cells #[.slice Ao169 y358.length co169] 28 (0,0)) zt11_27 hb);have n8_:=zm_ (KeepBut.trans zt11_6 (KeepBut.of_below hb g none) (.inl rfl));have n9_:=zm_ (below_step zt11_28 hb);clear HO348;clear HO351;clear HO360;clear HI0;clear BK342;clear BK354;clear BK361;clear HK;clear HB;have HO348:=n0_;have HO351:=n1_;have HO360:=n2_;have HO395:=n3_;have HI0:=n4_;have BK342:=n5_;have BK354:=n6_;have BK361:=n7_;have HK:=n8_;have HB:=n9_;clear n0_ n1_ n2_ n3_ n4_ n5_ n6_ n7_ n8_ n9_;clear hb ho177;obtain ⟨Ao178,co178,eo178⟩:=Kd.N_slice HO395.out;subst eo178;have hcz179_0 : w176.cell? ⟨gb361,0,none⟩ = some (.slice Ao169 y358.length co169):=(zc_ BK361.out 0).trans rfl;have hfz179_0:=zf_ BK361.out 0;have hnb180:=NB342_0.out;have hnc180:=NB0_342.out;have hcz181_0 : w176.cell? ⟨gb342,0,none⟩ = some (.slice none 0 0):=(zc_ BK342.out 0).trans rfl;have hfz181_0:=zf_ BK342.out 0))
       refine bodyPost_ret (results_cell_row rfl _ _ gb342 28 #[.slice Ao178 y393.length co178] (0,0) _ rfl (by (with_reducible repeat first|refine zl_ ?_ _|refine zr_ ?_|refine zk_ ?_ _);refine blk_put (cs:=#[.slice none 0 0]) ?_ 0 _ rfl;(with_reducible repeat first|refine zl_ ?_ _|refine zr_ ?_|refine zk_ ?_ _);refine blk_far ?_ NB342_361.out _;(with_reducible repeat first|refine zl_ ?_ _|refine zr_ ?_|refine zk_ ?_ _);exact BK342.out) Try.underlying28 rfl (by kernel_rfl)) rfl ?_
       exact ⟨_,by first|rfl|(simp [errW_none,errW_some] <;> rfl)|(simp [*,errW_none,errW_some] <;> rfl),by (with_reducible repeat (first|apply Kd.N_alloc|apply Kd.N_drewN|apply Kd.N_drew));exact Kd.N_mono (Kd.N_far (p:=⟨gb342,0,none⟩) (Kd.N_far (p:=⟨gb361,0,none⟩) (Kd.N_mono (Kd.N_mono HO395.out (fun k_ hk => (⟨hk,hk.2.2.2.2.2.2.1⟩ : _ ∧ k_ ≠ gb361))) (fun k_ hk => (⟨hk,hk.1.2.2.2.2.1⟩ : _ ∧ k_ ≠ gb342))) (fun _ hk => hk.1.2) (.slice Ao178 y393.length co178)) (fun _ hk => hk.2) (.slice Ao178 y393.length co178)) (fun _ hk => hk.1.1.1),by repeat (first|(with_reducible first|exact HI0.out|apply IsS109.alloc|apply IsS109.drewN|apply IsS109.drew|apply IsS109.set_1|apply IsS109.set_2|refine IsS109.far ?_ NB0_342.out _|refine IsS109.far ?_ NB0_354.out _|refine IsS109.far ?_ NB0_361.out _)|exact HI0.out),by repeat (first|(with_reducible first|exact HB.out|apply za_|apply zn_|apply zd_|refine zs_ ?_ (IsS109.ge HI0.out)|refine zs_ ?_ GE342.out|refine zs_ ?_ GE354.out|refine zs_ ?_ GE361.out)|exact HB.out),by repeat (first|(with_reducible first|exact HK.out|apply KeepBut.set_|apply keep_drewN|apply keep_drew|apply keep_alloc|refine keep_far ?_ GW342.out _|refine keep_far ?_ GW354.out _|refine keep_far ?_ GW361.out _)|exact HK.out)⟩
      ·rw [if_neg c153] at H
       have c153b0 : (t343 == 4) = false:=beq_eq_false_iff_ne.mpr c153
       have c153b1 : (t343 != 4) = true:=bne_iff_ne.mpr c153
       simp only [Option.some.injEq,Prod.mk.injEq] at H
       obtain ⟨rfl,rfl,rfl⟩:=H
       go_enter Try.func47,Try.ntmps47
       go_wp2_with (first|((with_reducible refine gate_dst (N:=2) rfl ?_);refine box_event ?hg (N:=2) ?hd (cs:=#[.slice none 0 0]) (t:=28) ?hr ?_;(case hd => rfl);(case hg => rfl);(case hr => first|(go_simp;done)|(go_simp;rfl));intro gb342 hg w182 hbox hb;have n0_:=zm_ (IsS109.below zt11_11 hb);have n1_:=zm_ (KeepBut.trans zt11_13 (KeepBut.of_below hb g none) (.inl rfl));have n2_:=zm_ (below_step zt11_29 hb);have n3_:=zm_ (hbox);have n4_:=zm_ ((zt11_30 : w.heap.size ≤ gb342));have n5_:=zm_ ((Nat.le_trans HW0.out (zt11_30 : w.heap.size ≤ gb342) : w0.heap.size ≤ gb342));have n6_:=zm_ ((zt11_34 : g ≠ gb342));have n7_:=zm_ ((zt11_35 : gb342 ≠ g));clear HI0;clear HK;clear HB;have HI0:=n0_;have HK:=n1_;have HB:=n2_;have BK342:=n3_;have GW342:=n4_;have GE342:=n5_;have NB0_342:=n6_;have NB342_0:=n7_;clear n0_ n1_ n2_ n3_ n4_ n5_ n6_ n7_;clear hb hbox hg)|((with_reducible refine gate_callee (f:=43) rfl ?_);refine goesL_ (some 8) rfl rfl Try.func43 (by kernel_rfl) rfl #[.pointer (some ⟨g,0,none⟩),.int .i64 16] rfl zq_ ?_;(with_reducible refine (spec_l01Below.calls g s0_0 s0_1 s0_2 16 t343 t344 t345 w0 _ ?side1 ?side2 A2.out).mono ?_);(case side1 => repeat (first|(with_reducible first|exact HI0.out|apply IsS109.alloc|apply IsS109.drewN|apply IsS109.drew|apply IsS109.set_1|apply IsS109.set_2|refine IsS109.far ?_ NB0_342.out _)|exact HI0.out));(case side2 => repeat (first|(with_reducible first|exact HB.out|apply za_|apply zn_|apply zd_|refine zs_ ?_ (IsS109.ge HI0.out)|refine zs_ ?_ GE342.out)|exact HB.out));rintro e w183 ⟨rfl,hi,hb,hk⟩;refine ⟨_,rfl,?_⟩;have n0_:=zm_ (KeepBut.blk hk (g':=gb342) (o:=.cells #[.slice none 0 0] 28 (0,0)) zt11_4 NB342_0.out (by simp));have n1_:=zm_ (KeepBut.trans zt11_2 hk (.inl rfl));have n2_:=zm_ (hb);have n3_:=zm_ (hi);clear BK342;clear HK;clear HB;clear HI0;have BK342:=n0_;have HK:=n1_;have HB:=n2_;have HI0:=n3_;clear n0_ n1_ n2_ n3_;(try clear hb);(try clear hb2);(try clear hk);(try clear hi))|((with_reducible refine gate_dst (N:=10) rfl ?_);refine Kd.R_lit Kd.string _ 9 ?hg (N:=10) ?hd (xs:=([(⟨#[97]⟩ : ByteArray),(⟨#[98]⟩ : ByteArray),(⟨#[110]⟩ : ByteArray)] : List ByteArray)) (inner:=[.string (⟨#[97]⟩ : ByteArray),.string (⟨#[98]⟩ : ByteArray),.string (⟨#[110]⟩ : ByteArray)]) (ok:=fun _ => True) (okp:=fun _ => True) ?hr ?hp (fun _ hk => hk) trivial (Below.refl _ _) (Nat.le_refl _) (by simp) ?_;(case hd => rfl);(case hg => rfl);(case hr => first|(go_simp;done)|(go_simp;rfl));(case hp => exact (Reps.one (show Kd.M Kd.string _ _ _ (⟨#[97]⟩ : ByteArray) [.string (⟨#[97]⟩ : ByteArray)] from rfl) (Reps.one (show Kd.M Kd.string _ _ _ (⟨#[98]⟩ : ByteArray) [.string (⟨#[98]⟩ : ByteArray)] from rfl) (Reps.one (show Kd.M Kd.string _ _ _ (⟨#[110]⟩ : ByteArray) [.string (⟨#[110]⟩ : ByteArray)] from rfl) (Reps.none _ _)))));intro v347 w184 ho185 hb hg_ hnew_;clear hg_ hnew_;(first|rw [← Ny346.out] at ho185|(simp only [Int.reduceToNat] at ho185;rw [← Ny346.out] at ho185));have n0_:=zm_ (Kd.R_lower (Kd.R_newM (M:=fun k_ => (w.heap.size ≤ k_)) ho185 (keep_size (w:=w) (g:=g) (row:=none) zt11_2) (fun k_ h_ => h_)) (keep_size (w:=w) (g:=g) (row:=none) zt11_2));have n1_:=zm_ (IsS109.below zt11_5 hb);have n2_:=zm_ (blk_below (g:=gb342) (o:=.cells #[.slice none 0 0] 28 (0,0)) zt11_4 hb);have n3_:=zm_ (KeepBut.trans zt11_2 (KeepBut.of_below hb g none) (.inl rfl));have n4_:=zm_ (below_step zt11_16 hb);clear HI0;clear BK342;clear HK;clear HB;have HO348:=n0_;have HI0:=n1_;have BK342:=n2_;have HK:=n3_;have HB:=n4_;clear n0_ n1_ n2_ n3_ n4_;clear hb ho185;obtain ⟨Ao186,co186,eo186⟩:=Kd.R_slice HO348.out;subst eo186)|((with_reducible refine gate_callee (f:=53) rfl ?_);refine goesL_ (some 11) rfl rfl Try.func53 (by kernel_rfl) rfl #[.pointer (some ⟨g,0,none⟩),.slice Ao186 y346.length co186,.int .i64 2] rfl zq_ ?_;(with_reducible refine (spec_l04Expr.calls g s0_0 t344 t345 _ _ y346 2 t349 t352 t353 w0 _ ?side1 ?side2 ?side3 ?side4 ?side5 A3.out).mono ?_);(case side1 => repeat (first|(with_reducible first|exact HI0.out|apply IsS109.alloc|apply IsS109.drewN|apply IsS109.drew|apply IsS109.set_1|apply IsS109.set_2|refine IsS109.far ?_ NB0_342.out _)|exact HI0.out));(case side2 => repeat (first|(with_reducible first|exact HB.out|apply za_|apply zn_|apply zd_|refine zs_ ?_ (IsS109.ge HI0.out)|refine zs_ ?_ GE342.out)|exact HB.out));(case side3 => repeat (first|exact (Kd.R_reads' HO348.out).2.2|(with_reducible refine Kd.C_alloc ?_ _)|(with_reducible refine Kd.C_drewN ?_ _)|(with_reducible refine Kd.C_drew ?_)));(case side4 => exact (Kd.R_reads' HO348.out).2.1);(case side5 => exact far_slice (IsS109.own_ne HI0.out HO348.out (by decide)));rintro e w187 ⟨v350,rfl,ho0,hi,hb,hk⟩;refine ⟨_,rfl,?_⟩;have n0_:=zm_ (KeepBut.blk hk (g':=gb342) (o:=.cells #[.slice none 0 0] 28 (0,0)) zt11_4 NB342_0.out (by simp));have n1_:=zm_ (Kd.R_mono (Kd.R_keep (IsS109.apart (show IsS109 w0 _ g s0_0 t344 t345 from zt11_5) zt11_8 (by decide)) hk (fun _ h => h.2)) (fun _ h => h.1));have n2_:=zm_ (Kd.N_lower (Kd.N_mono (ok':=fun k_ => (w.heap.size ≤ k_) ∧ some k_ ≠ (.slice Ao186 y346.length co186 : Value).ownBlock ∧ k_ ≠ gb342 ∧ k_ ≠ g) (Kd.S_N (Kd.S_bound ho0)) (fun k_ hk_ => ⟨(Nat.le_trans (keep_size (w:=w) (g:=g) (row:=none) zt11_2) hk_.2.1),(Kd.fresh' (Kd.R_lt zt11_8) k_ hk_.2.1),(Kd.freshB (g:=gb342) (o:=.cells #[.slice none 0 0] 28 (0,0)) zt11_4 k_ hk_.2.1),(IsS109.fresh zt11_5 k_ hk_.2.1)⟩)) (keep_size (w:=w) (g:=g) (row:=none) zt11_2));have n3_:=zm_ (KeepBut.trans zt11_2 hk (.inl rfl));have n4_:=zm_ (hb);have n5_:=zm_ (hi);clear BK342;clear HO348;clear HK;clear HB;clear HI0;have BK342:=n0_;have HO348:=n1_;have HO351:=n2_;have HK:=n3_;have HB:=n4_;have HI0:=n5_;clear n0_ n1_ n2_ n3_ n4_ n5_;(try clear hb);(try clear hb2);(try clear hk);(try clear hi);(try clear ho0))|((with_reducible refine gate_dst (N:=4) rfl ?_);refine box_event ?hg (N:=4) ?hd (cs:=#[.slice none 0 0]) (t:=28) ?hr ?_;(case hd => rfl);(case hg => rfl);(case hr => first|(go_simp;done)|(go_simp;rfl));intro gb354 hg w188 hbox hb;have n0_:=zm_ (Kd.R_below zt11_8 hb);have n1_:=zm_ (Kd.N_below (Kd.N_elderB zt11_15 gb354 (Nat.le_of_eq hg.symm)) hb);have n2_:=zm_ (IsS109.below zt11_5 hb);have n3_:=zm_ (blk_below (g:=gb342) (o:=.cells #[.slice none 0 0] 28 (0,0)) zt11_4 hb);have n4_:=zm_ (KeepBut.trans zt11_2 (KeepBut.of_below hb g none) (.inl rfl));have n5_:=zm_ (below_step zt11_16 hb);have n6_:=zm_ (hbox);have n7_:=zm_ ((zt11_31 : w.heap.size ≤ gb354));have n8_:=zm_ ((Nat.le_trans HW0.out (zt11_31 : w.heap.size ≤ gb354) : w0.heap.size ≤ gb354));have n9_:=zm_ ((zt11_19 : gb342 ≠ gb354));have n10_:=zm_ ((zt11_20 : gb354 ≠ gb342));have n11_:=zm_ ((zt11_36 : g ≠ gb354));have n12_:=zm_ ((zt11_37 : gb354 ≠ g));clear HO348;clear HO351;clear HI0;clear BK342;clear HK;clear HB;have HO348:=n0_;have HO351:=n1_;have HI0:=n2_;have BK342:=n3_;have HK:=n4_;have HB:=n5_;have BK354:=n6_;have GW354:=n7_;have GE354:=n8_;have NB342_354:=n9_;have NB354_342:=n10_;have NB0_354:=n11_;have NB354_0:=n12_;clear n0_ n1_ n2_ n3_ n4_ n5_ n6_ n7_ n8_ n9_ n10_ n11_ n12_;clear hb hbox hg;obtain ⟨Ao189,co189,eo189⟩:=Kd.N_slice HO351.out;subst eo189;have hnb190:=NB354_342.out;have hnc190:=NB342_354.out;have hnb191:=NB354_0.out;have hnc191:=NB0_354.out;have hcz192_0 : w188.cell? ⟨gb354,0,none⟩ = some (.slice none 0 0):=(zc_ BK354.out 0).trans rfl;have hfz192_0:=zf_ BK354.out 0)|((with_reducible refine gate_dst (N:=12) rfl ?_);refine Kd.N_lit k34 _ 34 ?hg (N':=12) ?hd (xs:=([] : List (S34))) (inner:=[]) (ok:=(fun k_ => (w.heap.size ≤ k_) ∧ some k_ ≠ (.slice Ao186 y346.length co186 : Value).ownBlock ∧ some k_ ≠ (.slice Ao189 t349.length co189 : Value).ownBlock ∧ k_ ≠ gb342 ∧ k_ ≠ gb354 ∧ k_ ≠ g)) (okp:=(fun k_ => (w.heap.size ≤ k_) ∧ some k_ ≠ (.slice Ao186 y346.length co186 : Value).ownBlock ∧ some k_ ≠ (.slice Ao189 t349.length co189 : Value).ownBlock ∧ k_ ≠ gb342 ∧ k_ ≠ gb354 ∧ k_ ≠ g)) ?hr ?hp (fun _ hk => hk) ((show ∀ k_,(w188.setCell ⟨gb354,0,none⟩ (.slice Ao189 t349.length co189)).heap.size ≤ k_ → (fun k_ => (w.heap.size ≤ k_) ∧ some k_ ≠ (.slice Ao186 y346.length co186 : Value).ownBlock ∧ some k_ ≠ (.slice Ao189 t349.length co189 : Value).ownBlock ∧ k_ ≠ gb342 ∧ k_ ≠ gb354 ∧ k_ ≠ g) k_ from fun k_ hk => ⟨(Nat.le_trans (keep_size (w:=w) (g:=g) (row:=none) zt11_1) hk),Kd.fresh' (Kd.R_lt zt11_48) k_ hk,Kd.fresh' (Kd.N_lt zt11_42) k_ hk,Kd.freshB (g:=gb342) (o:=.cells #[.slice none 0 0] 28 (0,0)) zt11_14 k_ hk,Kd.freshB (g:=gb354) (o:=.cells #[.slice Ao189 t349.length co189] 28 (0,0)) zt11_12 k_ hk,IsS109.fresh zt11_3 k_ hk⟩) _ (Nat.le_refl _)) (Below.refl _ _) (Nat.le_refl _) (by simp) ?_;(case hd => rfl);(case hg => rfl);(case hr => first|(go_simp;done)|(go_simp;rfl));(case hp => exact (Reps.none _ _));intro v356 w193 ho194 hb hg_ hnew_;clear hg_ hnew_;(first|rw [← Ny355.out] at ho194|(simp only [Int.reduceToNat] at ho194;rw [← Ny355.out] at ho194));have n0_:=zm_ (Kd.R_below zt11_48 hb);have n1_:=zm_ (Kd.N_elder' zt11_42 (Kd.N_base ho194) hb);have n2_:=zm_ (Kd.N_lower ho194 (keep_size (w:=w) (g:=g) (row:=none) zt11_1));have n3_:=zm_ (IsS109.below (show IsS109 w0 (w188.setCell ⟨gb354,0,none⟩ (.slice Ao189 t349.length co189)) g s0_0 t352 t353 from zt11_3) hb);have n4_:=zm_ (blk_below (g:=gb342) (o:=.cells #[.slice none 0 0] 28 (0,0)) zt11_14 hb);have n5_:=zm_ (blk_below (g:=gb354) (o:=.cells #[.slice Ao189 t349.length co189] 28 (0,0)) zt11_12 hb);have n6_:=zm_ (KeepBut.trans zt11_1 (KeepBut.of_below hb g none) (.inl rfl));have n7_:=zm_ (below_step zt11_10 hb);clear HO348;clear HO351;clear HI0;clear BK342;clear BK354;clear HK;clear HB;have HO348:=n0_;have HO351:=n1_;have HO357:=n2_;have HI0:=n3_;have BK342:=n4_;have BK354:=n5_;have HK:=n6_;have HB:=n7_;clear n0_ n1_ n2_ n3_ n4_ n5_ n6_ n7_;clear hb ho194;have hcz195_0 : w193.cell? ⟨gb354,0,none⟩ = some (.slice Ao189 t349.length co189):=(zc_ BK354.out 0).trans rfl;have hfz195_0:=zf_ BK354.out 0)|((with_reducible refine gate_builtin (b:=.append) (xs:=#[.tmp 12,.tmp 14]) rfl ?_);at_builtin;refine Kd.N_append_rows k34 w.heap.size rfl (.tmp 12) (.tmp 14) 26 34 (.agg #[(.int .i64 0),(.int .i64 0),(.string ⟨#[]⟩),(.slice none 0 0)]) 56 rfl Try.underlying26 info34 rfl (by decide) (by omega) v356 y355 t349 _ _ _ (fun k_ => (w.heap.size ≤ k_) ∧ some k_ ≠ (.slice Ao186 y346.length co186 : Value).ownBlock ∧ k_ ≠ gb342 ∧ k_ ≠ gb354 ∧ k_ ≠ g) (fun k_ => ((fun k_ => (w.heap.size ≤ k_) ∧ some k_ ≠ (.slice Ao186 y346.length co186 : Value).ownBlock ∧ k_ ≠ gb342 ∧ k_ ≠ gb354 ∧ k_ ≠ g)) k_ ∧ some k_ ≠ (v356 : Value).ownBlock) rfl rfl ?aO ?aR (fun _ hk => hk) ?aF (Below.refl _ _) ?aS ?aL ?_;(case aR => exact (by skip;exact Kd.N_F (Kd.N_mono (ok':=(fun k_ => ((fun k_ => (w.heap.size ≤ k_) ∧ some k_ ≠ (.slice Ao186 y346.length co186 : Value).ownBlock ∧ k_ ≠ gb342 ∧ k_ ≠ gb354 ∧ k_ ≠ g)) k_ ∧ some k_ ≠ (v356 : Value).ownBlock)) (HO351.out) (fun k_ hk => ⟨⟨hk.1.1.1,⟨hk.1.1.2.1,⟨hk.1.1.2.2.1,⟨hk.1.2,hk.1.1.2.2.2⟩⟩⟩⟩,hk.2⟩))));(case aF => exact (fun k_ hk => ⟨(Nat.le_trans (keep_size (w:=w) (g:=g) (row:=none) zt11_1) hk),Kd.fresh' (Kd.R_lt zt11_8) k_ hk,Kd.freshB (g:=gb342) (o:=.cells #[.slice none 0 0] 28 (0,0)) zt11_4 k_ hk,Kd.freshB (g:=gb354) (o:=.cells #[.slice Ao189 t349.length co189] 28 (0,0)) zt11_9 k_ hk,IsS109.fresh zt11_3 k_ hk⟩));(case aO => exact zt11_25);(case aS => exact (keep_size (w:=w) (g:=g) (row:=none) zt11_1));(case aL => have:=LMc4.out;omega);intro v359 w196 ho hb hg hat;rw [← Ny358.out] at ho;have n0_:=zm_ (IsS109.grown zt11_3 hg (IsS109.own_neN HI0.out HO357.out (by decide)));have n1_:=zm_ (blk_grown (g:=gb342) (o:=.cells #[.slice none 0 0] 28 (0,0)) zt11_4 hg (Kd.N_ne HO357.out BK342.out (by decide)));have n2_:=zm_ (Kd.R_over' zt11_8 (Kd.N_typed zt11_33) (by decide) hg);have n3_:=zm_ (Kd.N_afterv (ok:=(fun k_ => (w.heap.size ≤ k_) ∧ some k_ ≠ (.slice Ao186 y346.length co186 : Value).ownBlock ∧ k_ ≠ gb342 ∧ k_ ≠ g ∧ k_ ≠ gb354)) zt11_23 hg hat);have n4_:=zm_ (blk_grown (g:=gb354) (o:=.cells #[.slice Ao189 t349.length co189] 28 (0,0)) zt11_9 hg (Kd.N_ne HO357.out BK354.out (by decide)));have n5_:=zm_ (below_weaken zt11_10 HL.out hb);have n6_:=zm_ (KeepBut.trans zt11_1 (KeepBut.of_grown hg g) (Kd.N_base2 HO357.out));have n7_:=zm_ (ho);clear HI0;clear BK342;clear HO348;clear HO351;clear BK354;clear HB;clear HK;clear HO357;have HI0:=n0_;have BK342:=n1_;have HO348:=n2_;have HO351:=n3_;have BK354:=n4_;have HB:=n5_;have HK:=n6_;have HO360:=n7_;clear n0_ n1_ n2_ n3_ n4_ n5_ n6_ n7_;clear ho hb hg hat;obtain ⟨Ao197,co197,eo197⟩:=Kd.N_slice HO360.out;subst eo197)|((with_reducible refine gate_dst (N:=5) rfl ?_);refine box_event ?hg (N:=5) ?hd (cs:=#[.slice none 0 0]) (t:=28) ?hr ?_;(case hd => rfl);(case hg => rfl);(case hr => first|(go_simp;done)|(go_simp;rfl));intro gb361 hg w198 hbox hb;have n0_:=zm_ (Kd.R_below zt11_8 hb);have n1_:=zm_ (Kd.N_below (Kd.N_elderB zt11_15 gb361 (Nat.le_of_eq hg.symm)) hb);have n2_:=zm_ (Kd.N_below (Kd.N_elderB zt11_17 gb361 (Nat.le_of_eq hg.symm)) hb);have n3_:=zm_ (IsS109.below zt11_3 hb);have n4_:=zm_ (blk_below (g:=gb342) (o:=.cells #[.slice none 0 0] 28 (0,0)) zt11_4 hb);have n5_:=zm_ (blk_below (g:=gb354) (o:=.cells #[.slice Ao189 t349.length co189] 28 (0,0)) zt11_9 hb);have n6_:=zm_ (KeepBut.trans zt11_1 (KeepBut.of_below hb g none) (.inl rfl));have n7_:=zm_ (below_step zt11_10 hb);have n8_:=zm_ (hbox);have n9_:=zm_ ((zt11_32 : w.heap.size ≤ gb361));have n10_:=zm_ ((Nat.le_trans HW0.out (zt11_32 : w.heap.size ≤ gb361) : w0.heap.size ≤ gb361));have n11_:=zm_ ((zt11_19 : gb342 ≠ gb361));have n12_:=zm_ ((zt11_20 : gb361 ≠ gb342));have n13_:=zm_ ((by rw [hg];exact Nat.ne_of_lt (blk_lt (g:=gb354) (o:=.cells #[.slice Ao189 t349.length co189] 28 (0,0)) zt11_9) : gb354 ≠ gb361));have n14_:=zm_ ((by rw [hg];exact Nat.ne_of_gt (blk_lt (g:=gb354) (o:=.cells #[.slice Ao189 t349.length co189] 28 (0,0)) zt11_9) : gb361 ≠ gb354));have n15_:=zm_ ((zt11_38 : g ≠ gb361));have n16_:=zm_ ((zt11_39 : gb361 ≠ g));clear HO348;clear HO351;clear HO360;clear HI0;clear BK342;clear BK354;clear HK;clear HB;have HO348:=n0_;have HO351:=n1_;have HO360:=n2_;have HI0:=n3_;have BK342:=n4_;have BK354:=n5_;have HK:=n6_;have HB:=n7_;have BK361:=n8_;have GW361:=n9_;have GE361:=n10_;have NB342_361:=n11_;have NB361_342:=n12_;have NB354_361:=n13_;have NB361_354:=n14_;have NB0_361:=n15_;have NB361_0:=n16_;clear n0_ n1_ n2_ n3_ n4_ n5_ n6_ n7_ n8_ n9_ n10_ n11_ n12_ n13_ n14_ n15_ n16_;clear hb hbox hg;have hnb199:=NB361_342.out;have hnc199:=NB342_361.out;have hnb200:=NB361_354.out;have hnc200:=NB354_361.out;have hnb201:=NB361_0.out;have hnc201:=NB0_361.out;have hcz202_0 : w198.cell? ⟨gb361,0,none⟩ = some (.slice none 0 0):=(zc_ BK361.out 0).trans rfl;have hfz202_0:=zf_ BK361.out 0)|((with_reducible refine gate_callee (f:=43) rfl ?_);refine goesL_ (some 21) rfl rfl Try.func43 (by kernel_rfl) rfl #[.pointer (some ⟨g,0,none⟩),.int .i64 (y358.length : Int)] rfl zq_ ?_;(with_reducible refine (spec_l01Below.calls g s0_0 t352 t353 (y358.length : Int) t362 t363 t364 w0 _ ?side1 ?side2 A5.out).mono ?_);(case side1 => repeat (first|(with_reducible first|exact HI0.out|apply IsS109.alloc|apply IsS109.drewN|apply IsS109.drew|apply IsS109.set_1|apply IsS109.set_2|refine IsS109.far ?_ NB0_342.out _|refine IsS109.far ?_ NB0_354.out _|refine IsS109.far ?_ NB0_361.out _)|exact HI0.out));(case side2 => repeat (first|(with_reducible first|exact HB.out|apply za_|apply zn_|apply zd_|refine zs_ ?_ (IsS109.ge HI0.out)|refine zs_ ?_ GE342.out|refine zs_ ?_ GE354.out|refine zs_ ?_ GE361.out)|exact HB.out));rintro e w203 ⟨rfl,hi,hb,hk⟩;refine ⟨_,rfl,?_⟩;have n0_:=zm_ (KeepBut.blk hk (g':=gb342) (o:=.cells #[.slice none 0 0] 28 (0,0)) zt11_21 NB342_0.out (by simp));have n1_:=zm_ (Kd.R_mono (Kd.R_keep (IsS109.apart (show IsS109 w0 _ g s0_0 t352 t353 from zt11_7) (by (with_reducible repeat (first|apply Kd.R_alloc|apply Kd.R_drewN|apply Kd.R_drew));exact (Kd.R_mono (Kd.R_far (p:=⟨gb361,0,none⟩) (Kd.R_types HO348.out BK361.out (by decide)) (fun _ hk => hk.2) (.slice Ao197 y358.length co197)) (fun _ h_ => h_.1))) (by decide)) hk (fun _ h => h.2)) (fun _ h => h.1));have n2_:=zm_ (Kd.N_mono (Kd.N_keep (Kd.N_mono (ok:=fun k_ => (((((w.heap.size ≤ k_)) ∧ (some k_ ≠ (.slice Ao186 y346.length co186 : Value).ownBlock ∧ (k_ ≠ gb342 ∧ (k_ ≠ g ∧ k_ ≠ gb354)))) ∧ some k_ ≠ (.slice Ao197 y358.length co197 : Value).ownBlock) ∧ k_ ≠ gb361)) (by (with_reducible repeat (first|apply Kd.N_alloc|apply Kd.N_drewN|apply Kd.N_drew));exact (Kd.N_mono (Kd.N_far (p:=⟨gb361,0,none⟩) (Kd.N_mono HO351.out (fun k_ hk => (⟨hk,hk.2⟩ : _ ∧ k_ ≠ gb361))) (fun _ hk => hk.2) (.slice Ao197 y358.length co197)) (fun _ h_ => h_.1))) (fun k_ hk_ => (⟨hk_,hk_.1.1.2.2.2.1⟩ : _ ∧ k_ ≠ g))) hk (fun _ h => h.2)) (fun _ h => h.1));have n3_:=zm_ (KeepBut.blk hk (g':=gb354) (o:=.cells #[.slice Ao189 t349.length co189] 28 (0,0)) zt11_22 NB354_0.out (by simp));have n4_:=zm_ (Kd.N_mono (Kd.N_keep (Kd.N_mono (ok:=fun k_ => ((((w.heap.size ≤ k_)) ∧ (some k_ ≠ (.slice Ao186 y346.length co186 : Value).ownBlock ∧ (k_ ≠ gb342 ∧ (k_ ≠ gb354 ∧ k_ ≠ g)))) ∧ k_ ≠ gb361)) (by (with_reducible repeat (first|apply Kd.N_alloc|apply Kd.N_drewN|apply Kd.N_drew));exact (Kd.N_mono (Kd.N_far (p:=⟨gb361,0,none⟩) (Kd.N_mono HO360.out (fun k_ hk => (⟨hk,hk.2⟩ : _ ∧ k_ ≠ gb361))) (fun _ hk => hk.2) (.slice Ao197 y358.length co197)) (fun _ h_ => h_.1))) (fun k_ hk_ => (⟨hk_,hk_.1.2.2.2.2⟩ : _ ∧ k_ ≠ g))) hk (fun _ h => h.2)) (fun _ h => h.1));have n5_:=zm_ (KeepBut.blk hk (g':=gb361) (o:=.cells #[.slice Ao197 y358.length co197] 28 (0,0)) zt11_18 NB361_0.out (by simp));have n6_:=zm_ (KeepBut.trans zt11_6 hk (.inl rfl));have n7_:=zm_ (hb);have n8_:=zm_ (hi);clear BK342;clear HO348;clear HO351;clear BK354;clear HO360;clear BK361;clear HK;clear HB;clear HI0;have BK342:=n0_;have HO348:=n1_;have HO351:=n2_;have BK354:=n3_;have HO360:=n4_;have BK361:=n5_;have HK:=n6_;have HB:=n7_;have HI0:=n8_;clear n0_ n1_ n2_ n3_ n4_ n5_ n6_ n7_ n8_;(try clear hb);(try clear hb2);(try clear hk);(try clear hi);have hcz204_0 : w203.cell? ⟨gb361,0,none⟩ = some (.slice Ao197 y358.length co197):=(zc_ BK361.out 0).trans rfl;have hfz204_0:=zf_ BK361.out 0;have hnb205:=NB342_0.out;have hnc205:=NB0_342.out;have hcz206_0 : w203.cell? ⟨gb342,0,none⟩ = some (.slice none 0 0):=(zc_ BK342.out 0).trans rfl;have hfz206_0:=zf_ BK342.out 0))
       refine bodyPost_ret (results_cell_row rfl _ _ gb342 28 #[.slice Ao197 y358.length co197] (0,0) _ rfl zt11_26 Try.underlying28 rfl (by kernel_rfl)) rfl ?_
       exact ⟨_,by first|rfl|(simp [errW_none,errW_some] <;> rfl)|(simp [*,errW_none,errW_some] <;> rfl),by (with_reducible repeat (first|apply Kd.N_alloc|apply Kd.N_drewN|apply Kd.N_drew));exact Kd.N_mono (Kd.N_far (p:=⟨gb342,0,none⟩) (Kd.N_mono HO360.out (fun k_ hk => (⟨hk,hk.1.2.2.1⟩ : _ ∧ k_ ≠ gb342))) (fun _ hk => hk.2) (.slice Ao197 y358.length co197)) (fun _ hk => hk.1.1.1),by repeat (first|(with_reducible first|exact HI0.out|apply IsS109.alloc|apply IsS109.drewN|apply IsS109.drew|apply IsS109.set_1|apply IsS109.set_2|refine IsS109.far ?_ NB0_342.out _|refine IsS109.far ?_ NB0_354.out _|refine IsS109.far ?_ NB0_361.out _)|exact HI0.out),by repeat (first|(with_reducible first|exact HB.out|apply za_|apply zn_|apply zd_|refine zs_ ?_ (IsS109.ge HI0.out)|refine zs_ ?_ GE342.out|refine zs_ ?_ GE354.out|refine zs_ ?_ GE361.out)|exact HB.out),by repeat (first|(with_reducible first|exact HK.out|apply KeepBut.set_|apply keep_drewN|apply keep_drew|apply keep_alloc|refine keep_far ?_ GW342.out _|refine keep_far ?_ GW354.out _|refine keep_far ?_ GW361.out _)|exact HK.out)⟩
 ·rw [if_neg c4] at H
  exact absurd H (by simp)

end Go.Proofs.Ytnmhggdaccbbfaa.MFnExprFree
