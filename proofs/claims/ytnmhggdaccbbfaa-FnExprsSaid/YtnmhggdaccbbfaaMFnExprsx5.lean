import Derived.Test.YtnmhggdaccbbfaaMFnExprsx0
import Derived.Test.YtnmhggdaccbbfaaMFnExprsx1
import Derived.Test.YtnmhggdaccbbfaaMFnExprsx4
namespace Go.Proofs.Ytnmhggdaccbbfaa.MFnExprs
open Go.RowKit Go.Proofs.YtnmhggdaccbbfaaW.PrintWords Go.Proofs.YtnmhggdaccbbfaaW.PrintLast Go.Proofs.YtnmhggdaccbbfaaW.PrintMore
attribute [local go_sem] max2_int min2_int max_two min_two max_three min_three max_four min_four
set_option linter.unusedVariables false
set_option linter.unusedSimpArgs false
theorem zt5_2 {p : Prop} (h : p := by repeat (first|(with_reducible first|exact HB.out|apply za_|apply zn_|apply zd_|refine zs_ ?_ (IsS109.ge HI219.out)|refine zs_ ?_ GE215.out)|exact HB.out)) : p := h
theorem zt5_1 {p : Prop} (h : p := by (with_reducible repeat first|refine zl_ ?_ _|refine zr_ ?_|refine zk_ ?_ _);exact BK215.out) : p := h

/-- What stands while nodes are drawn: the cursor's block g,the pointer's block g3 with the row v of nodes;P0: the row's blocks at the call,P: now. -/
structure Mst (w0 w W : World) (g g3 : Nat) (P0 P : Nat → Prop) (b : List Int) (i h : Int) (v : Value) (out : List S34) : Prop where
 I : IsS109 w0 W g b i h
 B : Below w0.heap.size w0 W
 W0 : w0.heap.size ≤ w.heap.size
 H : W.heap[g3]? = some (.cells #[v] 26 (0,0))
 G : w0.heap.size ≤ g3
 S : Kd.S k34 34 W w0.heap.size P v out
 K : Kept w W (fun q => q = g ∨ q = g3 ∨ P0 q)
 N : ∀ q,P q → P0 q ∨ w.heap.size ≤ q
 L : ∀ q,P q → q < W.heap.size
/-- The new node's block,with the row of its kids. -/
structure Mbx (w0 w W : World) (P : Nat → Prop) (gx : Nat) (a c : Int) (s : ByteArray) (u : Value) (ks : List Int) : Prop where
 H : W.heap[gx]? = some (.cells #[.int .i64 a,.int .i64 c,.string s,u] 34 (0,0))
 N : w.heap.size ≤ gx
 M : ¬ P gx
 R : Kd.R (Kd.int .i64) 3 W w0.heap.size (fun q => some q = u.ownBlock) u ks
 F : ∀ q,u.ownBlock = some q → w.heap.size ≤ q ∧ ¬ P q
section
variable {w0 w W W1 W2 : World} {g g3 gx : Nat} {P0 P P1 : Nat → Prop} {b : List Int} {i h i' h' : Int} {v v1 u v5 : Value} {out out1 : List S34} {a c : Int} {s : ByteArray} {ks ks' : List Int}
theorem Mst.below (m : Mst w0 w W g g3 P0 P b i h v out) (hb : Below W.heap.size W W1) : Mst w0 w W1 g g3 P0 P b i h v out :=
 ⟨m.I.below hb,below_step m.B hb,m.W0,blk_below m.H hb,m.G,Kd.S_below m.S hb,m.K.below hb,m.N,fun q hq => Nat.lt_of_lt_of_le (m.L q hq) hb.size⟩
theorem Mst.alloc (m : Mst w0 w W g g3 P0 P b i h v out) (o : Obj) : Mst w0 w (W.alloc o) g g3 P0 P b i h v out:=m.below (za_ (Below.refl _ _) o)
theorem Mst.drew (m : Mst w0 w W g g3 P0 P b i h v out) : Mst w0 w W.drew g g3 P0 P b i h v out:=m.below (zd_ (Below.refl _ _))
theorem Mst.drewN (m : Mst w0 w W g g3 P0 P b i h v out) (n : Nat) : Mst w0 w (W.drewN n) g g3 P0 P b i h v out:=m.below (zn_ (Below.refl _ _) n)
theorem Mst.pick (m : Mst w0 w W g g3 P0 P b i h v out) (hi : IsS109 w0 W1 g b i' h') (hb : Below w0.heap.size w0 W1) (hk : KeepBut W W1 g none) : Mst w0 w W1 g g3 P0 P b i' h' v out :=
 ⟨hi,hb,m.W0,hk.blk m.H (Ne.symm (m.I.ne_blk m.H (by decide))) (by simp),m.G,Kd.S_mono (Kd.S_keep (m.I.apartS m.S (by decide)) hk (fun _ h => h.2)) (fun _ h => h.1),m.K.of_keep hk (.inl (.inl rfl)),m.N,fun q hq => Nat.lt_of_lt_of_le (m.L q hq) hk.1⟩
theorem Mst.wle (m : Mst w0 w W g g3 P0 P b i h v out) : w.heap.size ≤ W.heap.size:=m.K.1
theorem Mst.enter (m : Mst w0 w W g g3 P0 P b i h v out) : Mst w0 W W g g3 P P b i h v out :=
 ⟨m.I,m.B,m.B.size,m.H,m.G,m.S,Kept.refl _ _,fun _ hq => .inl hq,m.L⟩
theorem Mst.names {Q : World → Prop} (m : Mst w0 w W g g3 P0 P b i h v out) (hn : ∀ W',Kept w W' (fun q => q = g ∨ q = g3 ∨ P0 q) → Q W') : ∀ W',Kept W W' (fun q => q = g ∨ q = g3 ∨ P q) → Q W':=fun W' hk => by
 refine hn W' (m.K.then_ hk ?_)
 rintro k (hk|hk|hk)
 ·exact .inl (.inl hk)
 ·exact .inl (.inr (.inl hk))
 ·exact (m.N k hk).elim (fun h => .inl (.inr (.inr h))) .inr
theorem Mst.after (m : Mst w0 w W g g3 P0 P b i h v out) (t : Mst w0 W W1 g g3 P P1 b i' h' v1 out1) : Mst w0 w W1 g g3 P0 P1 b i' h' v1 out1:=by
 refine ⟨t.I,t.B,m.W0,t.H,t.G,t.S,m.K.then_ t.K ?_,fun q hq => ?_,t.L⟩
 ·rintro k (hk|hk|hk)
  ·exact .inl (.inl hk)
  ·exact .inl (.inr (.inl hk))
  ·exact (m.N k hk).elim (fun h => .inl (.inr (.inr h))) .inr
 ·exact (t.N q hq).elim (m.N q) (fun h => .inr (Nat.le_trans m.wle h))
theorem Mst.pick_box (m : Mst w0 w W g g3 P0 P b i h v out) (x : Mbx w0 w W P gx a c s u ks) (hk : KeepBut W W1 g none) : Mbx w0 w W1 P gx a c s u ks :=
 ⟨hk.blk x.H (Ne.symm (m.I.ne_blk x.H (by decide))) (by simp),x.N,x.M,Kd.R_mono (Kd.R_keep (m.I.apart x.R (by decide)) hk (fun _ h => h.2)) (fun _ h => h.1),x.F⟩
theorem Mbx.below (x : Mbx w0 w W P gx a c s u ks) (hb : Below W.heap.size W W1) : Mbx w0 w W1 P gx a c s u ks:=⟨blk_below x.H hb,x.N,x.M,Kd.R_below x.R hb,x.F⟩
theorem Mbx.alloc (x : Mbx w0 w W P gx a c s u ks) (o : Obj) : Mbx w0 w (W.alloc o) P gx a c s u ks:=x.below (za_ (Below.refl _ _) o)
theorem Mbx.drew (x : Mbx w0 w W P gx a c s u ks) : Mbx w0 w W.drew P gx a c s u ks:=x.below (zd_ (Below.refl _ _))
theorem Mbx.drewN (x : Mbx w0 w W P gx a c s u ks) (n : Nat) : Mbx w0 w (W.drewN n) P gx a c s u ks:=x.below (zn_ (Below.refl _ _) n)
theorem Mbx.g3_ne (x : Mbx w0 w W P gx a c s u ks) (m : Mst w0 w W g g3 P0 P b i h v out) : gx ≠ g3:=by
 rintro rfl
 have h1:=x.H
 rw [m.H] at h1
 injection h1 with h1
 injection h1 with _ h2
 exact absurd h2 (by decide)
theorem Mbx.call (x : Mbx w0 w W P gx a c s u ks) (m : Mst w0 w W g g3 P0 P b i h v out) (t : Mst w0 W W1 g g3 P P1 b i' h' v1 out1) : Mbx w0 w W1 P1 gx a c s u ks:=by
 refine ⟨blk_kept x.H t.K ?_,x.N,fun hp => ?_,Kd.R_kept x.R t.K ?_,fun q hq => ⟨(x.F q hq).1,fun hp => ?_⟩⟩
 ·rintro (hk|hk|hk)
  ·exact m.I.ne_blk x.H (by decide) hk.symm
  ·exact x.g3_ne m hk
  ·exact x.M hk
 ·exact (t.N gx hp).elim x.M (fun h => absurd (blk_lt x.H) (by omega))
 ·rintro k hk (hh|hh|hh)
  ·exact m.I.own_ne x.R (by decide) (hh ▸ hk)
  ·exact Kd.R_ne x.R m.H (by decide) (hh ▸ hk)
  ·exact (x.F k hk.symm).2 hh
 ·exact (t.N q hp).elim (x.F q hq).2 (fun h => absurd (Kd.R_lt x.R q hq) (by omega))
theorem Mbx.cell3 (x : Mbx w0 w W P gx a c s u ks) {W5 : World} (hg : W.grownBy W5 u.ownBlock) : W5.cell? ⟨gx,3,none⟩ = some u:=(zc_ (blk_grown x.H hg (Kd.R_ne x.R x.H (by decide))) 3).trans rfl
theorem Mbx.frz (x : Mbx w0 w W P gx a c s u ks) {W5 : World} (hg : W.grownBy W5 u.ownBlock) : W5.frozen? ⟨gx,3,none⟩ = false:=zf_ (blk_grown x.H hg (Kd.R_ne x.R x.H (by decide))) 3
theorem Mst.far (m : Mst w0 w W g g3 P0 P b i h v out) (x : W.heap[gx]? = some (.cells #[.int .i64 a,.int .i64 c,.string s,u] 34 (0,0))) (hn : w.heap.size ≤ gx) (hp : ¬ P gx) (j : Nat) (y : Value) : Mst w0 w (W.setCell ⟨gx,j,none⟩ y) g g3 P0 P b i h v out:=by
 have h3 : g3 ≠ gx:=by
  rintro rfl
  have h1:=x
  rw [m.H] at h1
  injection h1 with h1
  injection h1 with _ h2
  exact absurd h2 (by decide)
 refine ⟨m.I.far (m.I.ne_blk x (by decide)) y,zs_ m.B (Nat.le_trans m.W0 hn),m.W0,blk_far m.H h3 y,m.G,Kd.S_far (p:=⟨gx,j,none⟩) m.S (fun k hk e => hp ((show k = gx from e) ▸ hk)) y,m.K.setCell (.inr hn) y,m.N,fun q hq => ?_⟩
 simpa [World.setCell] using m.L q hq
theorem Mst.new (m : Mst w0 w W g g3 P0 P b i h v out) (hg : gx = W.heap.size) (hx : W1.heap[gx]? = some (.cells #[.int .i64 a,.int .i64 c,.string s,.slice none 0 0] 34 (0,0))) (hb : Below W.heap.size W W1) : Mbx w0 w W1 P gx a c s (.slice none 0 0) [] :=
 ⟨hx,hg ▸ m.wle,fun hp => absurd (m.L gx hp) (by omega),Kd.R_nil _ _ _ _ _,fun q hq => by cases hq⟩
/-- A number or a text of the node is written. -/
theorem Mbx.put (x : Mbx w0 w W P gx a c s u ks) (j : Nat) (y : Value) {a' c' : Int} {s' : ByteArray} (e : (#[.int .i64 a,.int .i64 c,.string s,u] : Array Value).setIfInBounds j y = #[.int .i64 a',.int .i64 c',.string s',u]) : Mbx w0 w (W.setCell ⟨gx,j,none⟩ y) P gx a' c' s' u ks :=
 ⟨blk_put x.H j y e,x.N,x.M,Kd.R_far (p:=⟨gx,j,none⟩) x.R (fun k hk e => Kd.R_ne x.R x.H (by decide) ((show k = gx from e) ▸ hk)) y,x.F⟩
/-- The whole node is written. -/
theorem Mst.set4 (m : Mst w0 w W g g3 P0 P b i h v out) (x : Mbx w0 w W P gx a c s (.slice none 0 0) []) (a' c' : Int) (s' : ByteArray) : Mst w0 w ((((W.setCell ⟨gx,0,none⟩ (.int .i64 a')).setCell ⟨gx,1,none⟩ (.int .i64 c')).setCell ⟨gx,2,none⟩ (.string s')).setCell ⟨gx,3,none⟩ (.slice none 0 0)) g g3 P0 P b i h v out ∧ Mbx w0 w ((((W.setCell ⟨gx,0,none⟩ (.int .i64 a')).setCell ⟨gx,1,none⟩ (.int .i64 c')).setCell ⟨gx,2,none⟩ (.string s')).setCell ⟨gx,3,none⟩ (.slice none 0 0)) P gx a' c' s' (.slice none 0 0) []:=by
 have x1:=x.put 0 (.int .i64 a') (a':=a') (c':=c) (s':=s) rfl
 have m1:=m.far x.H x.N x.M 0 (.int .i64 a')
 have x2:=x1.put 1 (.int .i64 c') (a':=a') (c':=c') (s':=s) rfl
 have m2:=m1.far x1.H x1.N x1.M 1 (.int .i64 c')
 have x3:=x2.put 2 (.string s') (a':=a') (c':=c') (s':=s') rfl
 have m3:=m2.far x2.H x2.N x2.M 2 (.string s')
 exact ⟨m3.far x3.H x3.N x3.M 3 _,x3.put 3 (.slice none 0 0) rfl⟩
/-- A kid is appended to the row and the row's value stored: the node. -/
theorem Mbx.pushed (x : Mbx w0 w W P gx a c s u ks) (m : Mst w0 w W g g3 P0 P b i h v out) {W5 : World} (ho : Kd.R (Kd.int .i64) 3 W5 w0.heap.size (fun k => some k = u.ownBlock ∨ W.heap.size ≤ k) v5 ks') (hg : W.grownBy W5 u.ownBlock) (hat : v5.ownBlock = u.ownBlock ∨ ∃ q,v5.ownBlock = some q ∧ W.heap.size ≤ q) : Mbx w0 w (W5.setCell ⟨gx,3,none⟩ v5) P gx a c s v5 ks':=by
 have hb5:=blk_grown x.H hg (Kd.R_ne x.R x.H (by decide))
 refine ⟨blk_put hb5 3 v5 rfl,x.N,x.M,Kd.R_far (p:=⟨gx,3,none⟩) (Kd.R_tight rfl ho) (fun k hk e => Kd.R_ne ho hb5 (by decide) ((show k = gx from e) ▸ hk)) v5,fun q hq => ?_⟩
 rcases hat with hat|⟨q',hq',hle⟩
 ·exact x.F q (hat ▸ hq)
 ·rw [hq'] at hq
  obtain rfl:=Option.some.inj hq
  exact ⟨Nat.le_trans m.wle hle,fun hp => absurd (m.L _ hp) (by omega)⟩
/-- The same: all else. -/
theorem Mst.pushed (m : Mst w0 w W g g3 P0 P b i h v out) (x : Mbx w0 w W P gx a c s u ks) {W5 : World} (hg : W.grownBy W5 u.ownBlock) (hb : Below w0.heap.size w0 W5) (v5 : Value) : Mst w0 w (W5.setCell ⟨gx,3,none⟩ v5) g g3 P0 P b i h v out:=by
 have m5 : Mst w0 w W5 g g3 P0 P b i h v out :=
  ⟨m.I.grown hg (m.I.own_ne x.R (by decide)),hb,m.W0,blk_grown m.H hg (Kd.R_ne x.R m.H (by decide)),m.G,Kd.S_grown m.S hg (fun k hk e => (x.F k e.symm).2 hk),m.K.of_grown hg (fun k e => .inr (x.F k e).1),m.N,fun q hq => Nat.lt_of_lt_of_le (m.L q hq) hg.size⟩
 exact m5.far (blk_grown x.H hg (Kd.R_ne x.R x.H (by decide))) x.N x.M 3 v5
theorem Mbx.v_ne (x : Mbx w0 w W P gx a c s u ks) (m : Mst w0 w W g g3 P0 P b i h v out) : some gx ≠ v.ownBlock:=fun e => x.M ((Kd.S_R m.S).1 gx e.symm)
theorem Mst.cell0 (m : Mst w0 w W g g3 P0 P b i h v out) (x : Mbx w0 w W P gx a c s u ks) {W5 : World} (hg : W.grownBy W5 v.ownBlock) : W5.cell? ⟨g3,0,none⟩ = some v:=(zc_ (blk_grown m.H hg (Kd.S_ne m.S m.H (by decide))) 0).trans rfl
theorem Mst.frz0 (m : Mst w0 w W g g3 P0 P b i h v out) (x : Mbx w0 w W P gx a c s u ks) {W5 : World} (hg : W.grownBy W5 v.ownBlock) : W5.frozen? ⟨g3,0,none⟩ = false:=zf_ (blk_grown m.H hg (Kd.S_ne m.S m.H (by decide))) 0
theorem Mbx.kept5 (x : Mbx w0 w W P gx a c s u ks) (m : Mst w0 w W g g3 P0 P b i h v out) {W5 : World} (hg : W.grownBy W5 v.ownBlock) : W5.heap[gx]? = some (.cells #[.int .i64 a,.int .i64 c,.string s,u] 34 (0,0)):=blk_grown x.H hg (x.v_ne m)
theorem Mbx.apart (x : Mbx w0 w W P gx a c s u ks) (m : Mst w0 w W g g3 P0 P b i h v out) : ∀ k,some k = u.ownBlock → (P k ∨ some k = u.ownBlock ∨ W.heap.size ≤ k) ∧ some k ≠ v.ownBlock:=fun k hk =>
 ⟨.inr (.inl hk),fun e => (x.F k hk.symm).2 ((Kd.S_R m.S).1 k e.symm)⟩
theorem Mbx.beside (x : Mbx w0 w W P gx a c s u ks) (m : Mst w0 w W g g3 P0 P b i h v out) : Kd.S k34 34 W w0.heap.size (fun k => (P k ∨ some k = u.ownBlock ∨ W.heap.size ≤ k) ∧ ¬ some k = u.ownBlock) v out :=
 Kd.S_mono m.S (fun k hk => ⟨.inl hk,fun e => (x.F k e.symm).2 hk⟩)
/-- The node stands behind the others,and the pointer's block tells of the new row. -/
theorem Mst.done (m : Mst w0 w W g g3 P0 P b i h v out) (x : Mbx w0 w W P gx a c s u ks) {W5 : World} (ho : Kd.S k34 34 W5 w0.heap.size (fun k => P k ∨ some k = u.ownBlock ∨ W.heap.size ≤ k) v5 out1) (hb : Below w0.heap.size w0 W5) (hg : W.grownBy W5 v.ownBlock) :
  ∃ P',Mst w0 w (W5.setCell ⟨g3,0,none⟩ v5) g g3 P0 P' b i h v5 out1:=by
 have h3:=blk_grown m.H hg (Kd.S_ne m.S m.H (by decide))
 have hs:=Kd.S_bound (Kd.S_set ho h3 (by decide) 0 v5)
 refine ⟨_,(m.I.grown hg (m.I.own_neS m.S (by decide))).far (m.I.ne_blk m.H (by decide)) v5,zs_ hb m.G,m.W0,blk_put h3 0 v5 rfl,m.G,hs,(m.K.of_grown hg (fun k e => (m.N k ((Kd.S_R m.S).1 k e)).elim (fun h => .inl (.inr (.inr h))) .inr)).setCell (.inl (.inr (.inl rfl))) v5,?_,fun q hq => hq.2.2.1⟩
 rintro q ⟨hq|hq|hq,_⟩
 ·exact m.N q hq
 ·exact .inr (x.F q hq.symm).1
 ·exact .inr (Nat.le_trans m.wle hq)
end
/-- The new node behind the others;its place. -/
def made.fin (x : S34) (i h : Int) (out : List S34) : Option (Int × Int × Int × List S34):=if out.length < 1000000 then some (wrap64 (((out ++ [x]).length : Int) - 1),i,h,out ++ [x]) else none
/-- The kids,one behind the other. -/
def made.kids (rec : Int → Int → List S34 → Option (Int × Int × Int × List S34)) (n : Int) : Nat → Int → List Int → Int → Int → List S34 → Option (List Int × Int × Int × List S34)
 |0,_,_,_,_,_ => none
 |r + 1,x,ks,i,h,out => if x < n then (rec i h out).bind fun t => (if ks.length < 1000000 then made.kids rec n r (wrap64 (x + 1)) (ks ++ [t.1]) t.2.1 t.2.2.1 t.2.2.2 else none) else some (ks,i,h,out)
/-- The operation that is drawn. -/
def made.op (b : List Int) (deep i h : Int) : Option (Int × Int × Int) :=
 (spec_l01PickInt.f b i h [1,1,2,2,3]).bind fun p => if deep > 0 then ((spec_l01Once.f b p.2.1 p.2.2 3).bind fun o => if o.1 = true then some (p.1,o.2.1,o.2.2) else (spec_l01PickInt.f b o.2.1 o.2.2 [4,4,5,6,7,8,9,10,11]).bind fun q => some (q.1,q.2.1,q.2.2)) else some (p.1,p.2.1,p.2.2)
/-- The node. -/
def made.sw (rec : Int → Int → List S34 → Option (Int × Int × Int × List S34)) (b : List Int) (names : List ByteArray) (op i h : Int) (out : List S34) : Option (S34 × Int × Int × List S34) :=
 if op = 1 then (spec_l01PickInt.f b i h [0,1,2,3,9,99]).bind fun q => some (⟨op,q.1,⟨#[]⟩,[]⟩,q.2.1,q.2.2,out)
 else if op = 2 then (if (names.length : Int) = 0 then some (⟨1,1,⟨#[]⟩,[]⟩,i,h,out) else (spec_l01Below.f b i h (names.length : Int)).bind fun q => (if 0 ≤ q.1 then (if q.1 < (names.length : Int) then some (⟨op,0,rdOf ByteArray.empty names q.1,[]⟩,q.2.1,q.2.2,out) else none) else none))
 else if op = 3 then some (⟨op,0,⟨#[]⟩,[]⟩,i,h,out)
 else (spec_l04Kids.f 2 op).bind fun n => (made.kids rec n 4 0 [] i h out).bind fun t => some (⟨op,0,⟨#[]⟩,t.1⟩,t.2.1,t.2.2.1,t.2.2.2)
def spec_l04Made.f : Nat → List Int → List ByteArray → Int → Int → Int → List S34 → Option (Int × Int × Int × List S34)
 |0,_,_,_,_,_,_ => none
 |k + 1,b,names,deep,i,h,out => (made.op b deep i h).bind fun p => (made.sw (fun i h out => spec_l04Made.f k b names (wrap64 (deep - 1)) i h out) b names p.1 p.2.1 p.2.2 out).bind fun q => made.fin q.1 q.2.1 q.2.2.1 q.2.2.2
set_option maxHeartbeats 8000000 in
set_option maxRecDepth 100000 in
theorem spec_l04Made.calls (b : List Int) (names : List ByteArray) (k : Nat) : ∀ (deep i h : Int) (out : List S34) (r1 r2 r3 : Int) (r4 : List S34) (g g3 : Nat) (A : Option Addr) (c : Nat) (P0 : Nat → Prop) (v : Value) (w0 w : World),Mst w0 w w g g3 P0 P0 b i h v out → (∀ W',Kept w W' (fun q => q = g ∨ q = g3 ∨ P0 q) → Kd.C Kd.string W' A names.length names) → names.length ≤ c → spec_l04Made.f k b names deep i h out = some (r1,r2,r3,r4) →
  Calls Try.prog 82 #[.pointer (some ⟨g,0,none⟩),.pointer (some ⟨g3,0,none⟩),.slice A names.length c,.int .i64 deep] w fun e w' => e = .returned (.int .i64 r1) ∧ ∃ (v' : Value) (P' : Nat → Prop),Mst w0 w w' g g3 P0 P' b r2 r3 v' r4:=by
 induction k with
 |zero => intro deep i h out r1 r2 r3 r4 g g3 A c P0 v w0 w _ _ _ hf;exact absurd hf (by simp [spec_l04Made.f])
 |succ k ih =>
  intro deep i h out r1 r2 r3 r4 g g3 A c P0 v w0 w hm hn hc hf
  have hu34:=Try.underlying34
  have HS:=zm_ hm
  have HN:=zm_ hn
  have HC:=zm_ hc
  clear hm hn hc
  rw [spec_l04Made.f] at hf
  obtain ⟨⟨op,i1,h1⟩,AO,hf2⟩:=Option.bind_eq_some_iff.mp hf
  obtain ⟨⟨x,i2,h2,out2⟩,AS,hf3⟩:=Option.bind_eq_some_iff.mp hf2
  dsimp only at AS hf3
  have HF:=zm_ hf3
  have HA:=zm_ AS
  clear hf hf2 hf3 AS
  unfold made.op at AO
  obtain ⟨⟨t1,t2,t3⟩,AP,AO2⟩:=Option.bind_eq_some_iff.mp AO
  dsimp only at AO2
  obtain ⟨L1,hL1⟩ : ∃ y : List Int,y = [1,1,2,2,3]:=⟨_,rfl⟩
  obtain ⟨L2,hL2⟩ : ∃ y : List Int,y = [4,4,5,6,7,8,9,10,11]:=⟨_,rfl⟩
  rw [← hL1] at AP
  rw [← hL2] at AO2
  have HP:=zm_ AP
  have HO:=zm_ AO2
  have N1:=zm_ hL1
  have N2:=zm_ hL2
  clear AP AO AO2 hL1 hL2
  go_enter Try.func82,Try.ntmps82
  go_upto_region 2 with (first|((with_reducible refine gate_dst (N:=13) rfl ?_);refine Kd.R_lit (Kd.int .i64) _ 3 ?hg (N:=13) ?hd (xs:=([1,1,2,2,3] : List Int)) (inner:=[.int .i64 1,.int .i64 1,.int .i64 2,.int .i64 2,.int .i64 3]) (ok:=fun _ => True) (okp:=fun _ => True) ?hr ?hp (fun _ hk => hk) trivial (Below.refl _ _) (Nat.le_refl _) (by simp) ?_;(case hd => rfl);(case hg => rfl);(case hr => first|(go_simp;done)|(go_simp;rfl));(case hp => exact (Reps.one (show Kd.M (Kd.int .i64) _ _ _ 1 [.int .i64 1] from rfl) (Reps.one (show Kd.M (Kd.int .i64) _ _ _ 1 [.int .i64 1] from rfl) (Reps.one (show Kd.M (Kd.int .i64) _ _ _ 2 [.int .i64 2] from rfl) (Reps.one (show Kd.M (Kd.int .i64) _ _ _ 2 [.int .i64 2] from rfl) (Reps.one (show Kd.M (Kd.int .i64) _ _ _ 3 [.int .i64 3] from rfl) (Reps.none _ _)))))));intro v11 w11 ho11 hb hg_ hnew_;clear hg_ hnew_;(first|rw [← N1.out] at ho11|(simp only [Int.reduceToNat] at ho11;rw [← N1.out] at ho11));have HL:=zm_ ho11;have HS1:=zm_ (HS.out.below hb);clear HS;have HS:=HS1;clear HS1;clear hb ho11;obtain ⟨Ao11,co11,eo11⟩:=Kd.R_slice HL.out;subst eo11)|((with_reducible refine gate_callee (f:=77) rfl ?_);refine goesL_ (some 14) rfl rfl Try.func77 (by kernel_rfl) rfl #[.pointer (some ⟨g,0,none⟩),.slice Ao11 L1.length co11] rfl (by (try simp only [List.map_toArray,List.map_cons,List.map_nil]);first|done|rfl) ?_;(with_reducible refine (spec_l01PickInt.calls g b i h _ _ L1 t1 t2 t3 w0 _ HS.out.I HS.out.B (Kd.R_reads' HL.out).2.2 (Kd.R_reads' HL.out).2.1 (far_slice (IsS109.own_ne HS.out.I HL.out (by decide))) HP.out).mono ?_);rintro e w12 ⟨rfl,hi,hb,hk⟩;refine ⟨_,rfl,?_⟩;have HS1:=zm_ (HS.out.pick hi hb hk);clear HS;have HS:=HS1;clear HS1;clear HL hi hb hk))
  (try simp only [Act.put,List.setIfInBounds_toArray,List.set_cons_zero,List.set_cons_succ])
  go_cut [21] (fun v21 wc => ∃ (fl : Bool) (ia ha : Int),v21 = .bool fl ∧ Aside0 ((if fl = true then (spec_l01PickInt.f b ia ha L2).bind fun q => some (q.1,q.2.1,q.2.2) else some (t1,ia,ha)) = some (op,i1,h1)) ∧ Aside0 (Mst w0 w wc g g3 P0 P0 b ia ha v out))
  case first =>
   have hO:=HO.out
   clear HO
   by_cases hd : deep > 0
   ·rw [if_pos hd] at hO
    obtain ⟨⟨o1,o2,o3⟩,AQ,hO2⟩:=Option.bind_eq_some_iff.mp hO
    dsimp only at hO2
    have HQ:=zm_ AQ
    have HO2:=zm_ hO2
    clear AQ hO hO2
    have hd0 : decide (deep > 0) = true:=decide_eq_true hd
    have hd1 : decide (0 < deep) = true:=decide_eq_true hd
    clear hd
    go_wp2_with (go_at_call 96;(with_reducible refine (spec_l01Once.calls g b t2 t3 3 o1 o2 o3 w0 _ HS.out.I HS.out.B HQ.out).mono ?_);rintro e w21 ⟨rfl,hi,hb,hk⟩;have HS1:=zm_ (HS.out.pick hi hb hk);clear HS;have HS:=HS1;clear HS1;clear hi hb hk)
    go_meet
    case rel =>
     refine ⟨!o1,o2,o3,rfl,⟨?_⟩,⟨HS.out⟩⟩
     have hh:=HO2.out
     cases o1 with
     |true => rw [if_pos (show true = true from rfl)] at hh;rw [if_neg (show ¬ (!true) = true by decide)];exact hh
     |false => rw [if_neg (by decide)] at hh;rw [if_pos (show (!false) = true from rfl)];exact hh
   ·rw [if_neg hd] at hO
    have HO2:=zm_ hO
    clear hO
    have hd0 : decide (deep > 0) = false:=decide_eq_false hd
    have hd1 : decide (0 < deep) = false:=decide_eq_false hd
    clear hd
    go_wp2
    go_meet
    case rel => exact ⟨false,t2,t3,rfl,⟨by rw [if_neg (by decide)];exact HO2.out⟩,⟨HS.out⟩⟩
  case rest =>
   clear HS HO
   obtain ⟨fl,ia,ha,rfl,HO,HS⟩:=hcut
   go_upto_if 21 with fail
   go_cut [9] (fun v9 wc => v9 = .int .i64 op ∧ Aside0 (Mst w0 w wc g g3 P0 P0 b i1 h1 v out))
   case first =>
    have hO:=HO.out
    clear HO
    cases fl with
    |true =>
     rw [if_pos rfl] at hO
     obtain ⟨⟨q1,q2,q3⟩,AQ,hO2⟩:=Option.bind_eq_some_iff.mp hO
     simp only [Option.some.injEq,Prod.mk.injEq] at hO2
     obtain ⟨rfl,rfl,rfl⟩:=hO2
     have HQ:=zm_ AQ
     clear AQ hO
     go_wp2_with (first|((with_reducible refine gate_dst (N:=23) rfl ?_);refine Kd.R_lit (Kd.int .i64) _ 3 ?hg (N:=23) ?hd (xs:=([4,4,5,6,7,8,9,10,11] : List Int)) (inner:=[.int .i64 4,.int .i64 4,.int .i64 5,.int .i64 6,.int .i64 7,.int .i64 8,.int .i64 9,.int .i64 10,.int .i64 11]) (ok:=fun _ => True) (okp:=fun _ => True) ?hr ?hp (fun _ hk => hk) trivial (Below.refl _ _) (Nat.le_refl _) (by simp) ?_;(case hd => rfl);(case hg => rfl);(case hr => first|(go_simp;done)|(go_simp;rfl));(case hp => exact (Reps.one (show Kd.M (Kd.int .i64) _ _ _ 4 [.int .i64 4] from rfl) (Reps.one (show Kd.M (Kd.int .i64) _ _ _ 4 [.int .i64 4] from rfl) (Reps.one (show Kd.M (Kd.int .i64) _ _ _ 5 [.int .i64 5] from rfl) (Reps.one (show Kd.M (Kd.int .i64) _ _ _ 6 [.int .i64 6] from rfl) (Reps.one (show Kd.M (Kd.int .i64) _ _ _ 7 [.int .i64 7] from rfl) (Reps.one (show Kd.M (Kd.int .i64) _ _ _ 8 [.int .i64 8] from rfl) (Reps.one (show Kd.M (Kd.int .i64) _ _ _ 9 [.int .i64 9] from rfl) (Reps.one (show Kd.M (Kd.int .i64) _ _ _ 10 [.int .i64 10] from rfl) (Reps.one (show Kd.M (Kd.int .i64) _ _ _ 11 [.int .i64 11] from rfl) (Reps.none _ _)))))))))));intro v31 w31 ho31 hb hg_ hnew_;clear hg_ hnew_;(first|rw [← N2.out] at ho31|(simp only [Int.reduceToNat] at ho31;rw [← N2.out] at ho31));have HL:=zm_ ho31;have HS1:=zm_ (HS.out.below hb);clear HS;have HS:=HS1;clear HS1;clear hb ho31;obtain ⟨Ao31,co31,eo31⟩:=Kd.R_slice HL.out;subst eo31)|((with_reducible refine gate_callee (f:=77) rfl ?_);refine goesL_ (some 24) rfl rfl Try.func77 (by kernel_rfl) rfl #[.pointer (some ⟨g,0,none⟩),.slice Ao31 L2.length co31] rfl (by (try simp only [List.map_toArray,List.map_cons,List.map_nil]);first|done|rfl) ?_;(with_reducible refine (spec_l01PickInt.calls g b ia ha _ _ L2 q1 q2 q3 w0 _ HS.out.I HS.out.B (Kd.R_reads' HL.out).2.2 (Kd.R_reads' HL.out).2.1 (far_slice (IsS109.own_ne HS.out.I HL.out (by decide))) HQ.out).mono ?_);rintro e w32 ⟨rfl,hi,hb,hk⟩;refine ⟨_,rfl,?_⟩;have HS1:=zm_ (HS.out.pick hi hb hk);clear HS;have HS:=HS1;clear HS1;clear HL hi hb hk))
     go_meet
     case rel => exact ⟨rfl,⟨HS.out⟩⟩
    |false =>
     rw [if_neg (by decide)] at hO
     simp only [Option.some.injEq,Prod.mk.injEq] at hO
     obtain ⟨rfl,rfl,rfl⟩:=hO
     go_wp2
     go_meet
     case rel => exact ⟨rfl,⟨HS.out⟩⟩
   case rest =>
    clear HS HO
    obtain ⟨rfl,HS⟩:=hcut
    go_upto_block 0 with ((with_reducible refine gate_dst (N:=10) rfl ?_);refine box_event ?hg (N:=10) ?hd (cs:=#[.int .i64 0,.int .i64 0,.string (⟨#[]⟩ : ByteArray),.slice none 0 0]) (t:=34) ?hr ?_;(case hd => rfl);(case hg => rfl);(case hr => first|(go_simp;done)|(go_simp;rfl));intro gx hg w41 hbox hb;have HX:=zm_ (HS.out.new hg hbox hb);have HS1:=zm_ (HS.out.below hb);clear HS hg hb;have HS:=HS1;clear HS1;have hx0:=(zc_ hbox 0).trans rfl;have hx1:=(zc_ hbox 1).trans rfl;have hx2:=(zc_ hbox 2).trans rfl;have hx3:=(zc_ hbox 3).trans rfl;have hf0:=zf_ hbox 0;have hf1:=zf_ hbox 1;have hf2:=zf_ hbox 2;have hf3:=zf_ hbox 3;clear hbox)
    clear hx0 hx1 hx2 hx3 hf0 hf1 hf2 hf3
    obtain ⟨hs_,hx_⟩:=HS.out.set4 HX.out op 0 (⟨#[]⟩ : ByteArray)
    generalize ((((w41.setCell ⟨gx,0,none⟩ (.int .i64 op)).setCell ⟨gx,1,none⟩ (.int .i64 0)).setCell ⟨gx,2,none⟩ (.string (⟨#[]⟩ : ByteArray))).setCell ⟨gx,3,none⟩ (.slice none 0 0)) = w42 at hs_ hx_ ⊢
    clear HS HX
    have HS:=zm_ hs_
    have HX:=zm_ hx_
    clear hs_ hx_
    go_cut [] (fun wc => ∃ (xa xc : Int) (xs : ByteArray) (u : Value) (ksL : List Int) (PL : Nat → Prop) (vL : Value),Aside0 (x = (⟨xa,xc,xs,ksL⟩ : S34)) ∧ Aside0 (Mst w0 w wc g g3 P0 PL b i2 h2 vL out2) ∧ Aside0 (Mbx w0 w wc PL gx xa xc xs u ksL))
    case first =>
     have hA:=HA.out
     clear HA
     unfold made.sw at hA
     by_cases c1 : op = 1
     ·rw [if_pos c1] at hA
      have d1 : (op == 1) = true:=beq_iff_eq.mpr c1
      clear c1
      obtain ⟨L3,hL3⟩ : ∃ y : List Int,y = [0,1,2,3,9,99]:=⟨_,rfl⟩
      rw [← hL3] at hA
      have N3:=zm_ hL3
      clear hL3
      obtain ⟨⟨q1,q2,q3⟩,AQ,hO2⟩:=Option.bind_eq_some_iff.mp hA
      have HQ:=zm_ AQ
      clear AQ hA
      simp only [Option.some.injEq,Prod.mk.injEq] at hO2
      obtain ⟨rfl,rfl,rfl,rfl⟩:=hO2
      go_wp2_with (first|((with_reducible refine gate_dst (N:=31) rfl ?_);refine Kd.R_lit (Kd.int .i64) _ 3 ?hg (N:=31) ?hd (xs:=([0,1,2,3,9,99] : List Int)) (inner:=[.int .i64 0,.int .i64 1,.int .i64 2,.int .i64 3,.int .i64 9,.int .i64 99]) (ok:=fun _ => True) (okp:=fun _ => True) ?hr ?hp (fun _ hk => hk) trivial (Below.refl _ _) (Nat.le_refl _) (by simp) ?_;(case hd => rfl);(case hg => rfl);(case hr => first|(go_simp;done)|(go_simp;rfl));(case hp => exact (Reps.one (show Kd.M (Kd.int .i64) _ _ _ 0 [.int .i64 0] from rfl) (Reps.one (show Kd.M (Kd.int .i64) _ _ _ 1 [.int .i64 1] from rfl) (Reps.one (show Kd.M (Kd.int .i64) _ _ _ 2 [.int .i64 2] from rfl) (Reps.one (show Kd.M (Kd.int .i64) _ _ _ 3 [.int .i64 3] from rfl) (Reps.one (show Kd.M (Kd.int .i64) _ _ _ 9 [.int .i64 9] from rfl) (Reps.one (show Kd.M (Kd.int .i64) _ _ _ 99 [.int .i64 99] from rfl) (Reps.none _ _))))))));intro v43 w43 ho43 hb hg_ hnew_;clear hg_ hnew_;(first|rw [← N3.out] at ho43|(simp only [Int.reduceToNat] at ho43;rw [← N3.out] at ho43));have HL:=zm_ ho43;have HX1:=zm_ (HX.out.below hb);have HS1:=zm_ (HS.out.below hb);clear HS HX;have HS:=HS1;have HX:=HX1;clear HS1 HX1;clear hb ho43;obtain ⟨Ao43,co43,eo43⟩:=Kd.R_slice HL.out;subst eo43)|((with_reducible refine gate_callee (f:=77) rfl ?_);refine goesL_ (some 32) rfl rfl Try.func77 (by kernel_rfl) rfl #[.pointer (some ⟨g,0,none⟩),.slice Ao43 L3.length co43] rfl (by (try simp only [List.map_toArray,List.map_cons,List.map_nil]);first|done|rfl) ?_;(with_reducible refine (spec_l01PickInt.calls g b i1 h1 _ _ L3 q1 q2 q3 w0 _ HS.out.I HS.out.B (Kd.R_reads' HL.out).2.2 (Kd.R_reads' HL.out).2.1 (far_slice (IsS109.own_ne HS.out.I HL.out (by decide))) HQ.out).mono ?_);rintro e w44 ⟨rfl,hi,hb,hk⟩;refine ⟨_,rfl,?_⟩;have HX1:=zm_ (HS.out.pick_box HX.out hk);have HS1:=zm_ (HS.out.pick hi hb hk);clear HS HX;have HS:=HS1;have HX:=HX1;clear HS1 HX1;have hx1:=(zc_ HX.out.H 1).trans rfl;have hx2:=(zc_ HX.out.H 2).trans rfl;have hf1:=zf_ HX.out.H 1;have hf2:=zf_ HX.out.H 2;clear HL hi hb hk))
      go_meet
      case rel => exact ⟨_,_,_,_,_,_,_,⟨rfl⟩,⟨HS.out.far HX.out.H HX.out.N HX.out.M 1 _⟩,⟨HX.out.put 1 _ rfl⟩⟩
     rw [if_neg c1] at hA
     have d1 : (op == 1) = false:=beq_eq_false_iff_ne.mpr c1
     clear c1
     by_cases c2 : op = 2
     ·rw [if_pos c2] at hA
      have d2 : (op == 2) = true:=beq_iff_eq.mpr c2
      clear c2
      by_cases c3 : (names.length : Int) = 0
      ·rw [if_pos c3] at hA
       have d3 : ((names.length : Int) == 0) = true:=beq_iff_eq.mpr c3
       clear c3
       simp only [Option.some.injEq,Prod.mk.injEq] at hA
       obtain ⟨rfl,rfl,rfl,rfl⟩:=hA
       have hx0:=(zc_ HX.out.H 0).trans rfl
       have hx1:=(zc_ HX.out.H 1).trans rfl
       have hx2:=(zc_ HX.out.H 2).trans rfl
       have hx3:=(zc_ HX.out.H 3).trans rfl
       have hf0:=zf_ HX.out.H 0
       have hf1:=zf_ HX.out.H 1
       have hf2:=zf_ HX.out.H 2
       have hf3:=zf_ HX.out.H 3
       go_wp2
       go_meet
       case rel => exact ⟨_,_,_,_,_,_,_,⟨rfl⟩,⟨(HS.out.set4 HX.out 1 1 _).1⟩,⟨(HS.out.set4 HX.out 1 1 _).2⟩⟩
      ·rw [if_neg c3] at hA
       have d3 : ((names.length : Int) == 0) = false:=beq_eq_false_iff_ne.mpr c3
       clear c3
       obtain ⟨⟨q1,q2,q3⟩,AQ,hO2⟩:=Option.bind_eq_some_iff.mp hA
       have HQ:=zm_ AQ
       clear AQ hA
       dsimp only at hO2
       by_cases c4 : 0 ≤ q1
       rotate_left
       ·rw [if_neg c4] at hO2;cases hO2
       rw [if_pos c4] at hO2
       by_cases c5 : q1 < (names.length : Int)
       rotate_left
       ·rw [if_neg c5] at hO2;cases hO2
       rw [if_pos c5] at hO2
       simp only [Option.some.injEq,Prod.mk.injEq] at hO2
       obtain ⟨rfl,rfl,rfl,rfl⟩:=hO2
       have p5 : (0 ≤ q1) = True:=eq_true c4
       have q5 : (q1 < (names.length : Int)) = True:=eq_true c5
       have HC4:=zm_ c4
       have HC5:=zm_ c5
       clear c4 c5
       go_wp2_with (go_at_call 43;(with_reducible refine (spec_l01Below.calls g b i1 h1 (names.length : Int) q1 q2 q3 w0 _ HS.out.I HS.out.B HQ.out).mono ?_);rintro e w45 ⟨rfl,hi,hb,hk⟩;have HX1:=zm_ (HS.out.pick_box HX.out hk);have HS1:=zm_ (HS.out.pick hi hb hk);clear HS HX;have HS:=HS1;have HX:=HX1;clear HS1 HX1;have hx1:=(zc_ HX.out.H 1).trans rfl;have hx2:=(zc_ HX.out.H 2).trans rfl;have hf1:=zf_ HX.out.H 1;have hf2:=zf_ HX.out.H 2;clear hi hb hk;obtain ⟨ad5,e5,hn5⟩:=Kd.at_string (HN.out _ HS.out.K) q1 HC4.out HC5.out;cases e5)
       go_meet
       case rel => exact ⟨_,_,_,_,_,_,_,⟨rfl⟩,⟨HS.out.far HX.out.H HX.out.N HX.out.M 2 _⟩,⟨HX.out.put 2 _ rfl⟩⟩
     rw [if_neg c2] at hA
     have d2 : (op == 2) = false:=beq_eq_false_iff_ne.mpr c2
     clear c2
     by_cases c3 : op = 3
     ·rw [if_pos c3] at hA
      have d3 : (op != 3) = false:=bne_eq_false_iff_eq.mpr c3
      clear c3
      simp only [Option.some.injEq,Prod.mk.injEq] at hA
      obtain ⟨rfl,rfl,rfl,rfl⟩:=hA
      go_wp2
      go_meet
      case rel => exact ⟨_,_,_,_,_,_,_,⟨rfl⟩,⟨HS.out⟩,⟨HX.out⟩⟩
     rw [if_neg c3] at hA
     have d3 : (op != 3) = true:=bne_iff_ne.mpr c3
     clear c3
     obtain ⟨n,AN,hA2⟩:=Option.bind_eq_some_iff.mp hA
     obtain ⟨⟨ks,i3,h3,out3⟩,AK,hO2⟩:=Option.bind_eq_some_iff.mp hA2
     have HKn:=zm_ AN
     have HA:=zm_ AK
     clear AN AK hA hA2
     simp only [Option.some.injEq,Prod.mk.injEq] at hO2
     obtain ⟨rfl,rfl,rfl,rfl⟩:=hO2
     go_wp2
     go_loopg [11] 4 (fun kq v11 w' => ∃ (xI : Int) (ksL : List Int) (iL hL : Int) (outL : List S34) (PL : Nat → Prop) (vL u : Value),v11 = .int .i64 xI ∧ Aside0 (made.kids (fun i h out => spec_l04Made.f k b names (wrap64 (deep - 1)) i h out) n kq xI ksL iL hL outL = some (ks,i3,h3,out3)) ∧ Aside0 (Mst w0 w w' g g3 P0 PL b iL hL vL outL) ∧ Aside0 (Mbx w0 w w' PL gx op 0 (⟨#[]⟩ : ByteArray) u ksL))
     case atStart => exact ⟨_,_,_,_,_,_,_,_,rfl,HA,⟨HS.out⟩,⟨HX.out⟩⟩
     case round =>
      clear HS HX HA
      obtain ⟨xI,ksL,iL,hL,outL,PL,vL,u,rfl,HA,HS,HX⟩:=hrel
      cases gk with
      |zero => exact absurd HA.out (by simp [made.kids])
      |succ r =>
       have H:=HA.out
       clear HA
       rw [made.kids] at H
       by_cases c6 : xI < n
       ·rw [if_pos c6] at H
        have c6b : decide (xI < n) = true:=decide_eq_true c6
        clear c6
        obtain ⟨⟨t1,t2,t3,t4⟩,A5,H2⟩:=Option.bind_eq_some_iff.mp H
        dsimp only at A5 H2
        by_cases c7 : ksL.length < 1000000
        rotate_left
        ·rw [if_neg c7] at H2;cases H2
        rw [if_pos c7] at H2
        obtain ⟨ks2,hks2⟩ : ∃ y : List Int,y = ksL ++ [t1]:=⟨_,rfl⟩
        rw [← hks2] at H2
        have HKE:=zm_ hks2
        clear hks2
        have A5:=zm_ A5
        have HKL:=zm_ c7
        have H':=zm_ H2
        clear H H2 c7
        obtain ⟨Au,cu,rfl⟩:=Kd.R_slice HX.out.R
        obtain ⟨Av,cv,rfl⟩:=Kd.S_slice HS.out.S
        go_wp2_with (go_at_call 51;(with_reducible refine (spec_l04Kids.calls 2 op n _ HKn.out).mono ?_);rintro e w51 ⟨rfl,⟨mm,hmm⟩⟩;have HX1:=zm_ (HX.out.below (by rw [hmm];exact zn_ (Below.refl _ _) mm : Below _ _ w51));have HS1:=zm_ (HS.out.below (by rw [hmm];exact zn_ (Below.refl _ _) mm : Below _ _ w51));clear HS HX hmm;have HS:=HS1;have HX:=HX1;clear HS1 HX1)
        have HX1:=zm_ HX.out.drew
        have HS1:=zm_ HS.out.drew
        clear HX HS
        have HX:=HX1
        have HS:=HS1
        clear HX1 HS1
        have hx3:=(zc_ HX.out.H 3).trans rfl
        refine start_ (n:=12) (S:=fun w' => w'.cell? ⟨gx,3,none⟩ = some (.slice Au ksL.length cu)) (ds:=[11]) #[false,false,false,false,false,false,false,false,false,false,false,false] (by kernel_rfl) rfl rfl (hx3) (fun hHeld => ?_)
        generalize w51.drew = w9 at HS HX hx3 hHeld ⊢
        refine pure_ (i:=0) (N:=some 58) (v:=?_) (a':=?_) #[true,false,false,false,false,false,false,false,false,false,false,false] rfl rfl (by kernel_rfl) (fun _ _ _ h => h) (Or.inl ⟨by rfl,?_⟩) ?_ ?_
        rotate_left
        ·intro w'
         go_simp
         with_reducible rfl
        rotate_left
        ·simp only [Act.put,List.setIfInBounds_toArray,List.set_cons_zero,List.set_cons_succ,i64_w,i32_w,IntKind.wrap_u8]
         rfl
        refine pure_ (i:=2) (N:=some 60) (v:=?_) (a':=?_) #[true,false,true,false,false,false,false,false,false,false,false,false] rfl rfl (by kernel_rfl) (fun _ _ _ h => h) (Or.inl ⟨by rfl,?_⟩) ?_ ?_
        rotate_left
        ·intro w'
         go_simp
         with_reducible rfl
        rotate_left
        ·simp only [Act.put,List.setIfInBounds_toArray,List.set_cons_zero,List.set_cons_succ,i64_w,i32_w,IntKind.wrap_u8]
         rfl
        refine pure_ (i:=3) (N:=some 61) (v:=?_) (a':=?_) #[true,false,true,true,false,false,false,false,false,false,false,false] rfl rfl (by kernel_rfl) (fun _ _ _ h => h) (Or.inl ⟨by rfl,?_⟩) ?_ ?_
        rotate_left
        ·intro w'
         go_simp
         with_reducible rfl
        rotate_left
        ·simp only [Act.put,List.setIfInBounds_toArray,List.set_cons_zero,List.set_cons_succ,i64_w,i32_w,IntKind.wrap_u8]
         rfl
        refine pure_ (i:=4) (N:=some 62) (v:=?_) (a':=?_) #[true,false,true,true,true,false,false,false,false,false,false,false] rfl rfl (by kernel_rfl) (fun _ _ _ h => h) (Or.inl ⟨by rfl,?_⟩) ?_ ?_
        rotate_left
        ·intro w'
         go_simp
         with_reducible rfl
        rotate_left
        ·simp only [Act.put,List.setIfInBounds_toArray,List.set_cons_zero,List.set_cons_succ,i64_w,i32_w,IntKind.wrap_u8]
         rfl
        refine pure_ (i:=5) (N:=some 63) (v:=?_) (a':=?_) #[true,false,true,true,true,true,false,false,false,false,false,false] rfl rfl (by kernel_rfl) (fun _ _ _ h => h) (Or.inl ⟨by rfl,?_⟩) ?_ ?_
        rotate_left
        ·intro w'
         go_simp
         with_reducible rfl
        rotate_left
        ·simp only [Act.put,List.setIfInBounds_toArray,List.set_cons_zero,List.set_cons_succ,i64_w,i32_w,IntKind.wrap_u8]
         rfl
        refine pure_ (i:=6) (N:=some 64) (v:=?_) (a':=?_) #[true,false,true,true,true,true,true,false,false,false,false,false] rfl rfl (by kernel_rfl) (fun _ _ _ h => h) (Or.inl ⟨by rfl,?_⟩) ?_ ?_
        rotate_left
        ·intro w'
         go_simp
         with_reducible rfl
        rotate_left
        ·simp only [Act.put,List.setIfInBounds_toArray,List.set_cons_zero,List.set_cons_succ,i64_w,i32_w,IntKind.wrap_u8]
         rfl
        refine take_ (i:=1) (N:=some 59) (v:=?_) (a':=?_) #[true,true,true,true,true,true,true,false,false,false,false,false] rfl rfl (by kernel_rfl) (fun _ _ _ h => h) (Or.inl ⟨by rfl,?_⟩) hHeld ?_ ?_
        rotate_left
        ·intro w' s0
         go_simp
         with_reducible rfl
        rotate_left
        ·simp only [Act.put,List.setIfInBounds_toArray,List.set_cons_zero,List.set_cons_succ,i64_w,i32_w,IntKind.wrap_u8]
         rfl
        refine one_ (i:=7) (N:=some 65) #[true,true,true,true,true,true,true,true,false,false,false,false] rfl rfl (by kernel_rfl) (by decide) (fun K hK => ?_)
        refine goes_ Try.func82 (by kernel_rfl) rfl #[.pointer (some ⟨g,0,none⟩),.pointer (some ⟨g3,0,none⟩),.slice A names.length c,.int .i64 (wrap64 (deep - 1))] (by rfl) rfl rfl (by simp only [List.map_toArray,List.map_cons,List.map_nil];rfl) ?_
        with_reducible refine (ih (wrap64 (deep - 1)) iL hL outL t1 t2 t3 t4 g g3 A c PL (.slice Av outL.length cv) w0 _ (HS.out.enter) (HS.out.names HN.out) HC.out A5.out).mono ?_
        rintro e w3 ⟨rfl,v1,P1,s1⟩
        refine ⟨_,rfl,?_⟩
        have HX1:=zm_ (HX.out.call HS.out s1)
        have HS1:=zm_ (HS.out.after s1)
        clear HX HS s1
        refine hK.out _ _ ((zc_ HX1.out.H 3).trans rfl) (fun hHeld => ?_)
        clear hK K
        refine norm_ (a':=?_) ?_ ?_
        rotate_left
        ·show Act.put _ (some 65) _ = _
         simp only [Act.put,List.setIfInBounds_toArray,List.set_cons_zero,List.set_cons_succ,i64_w,i32_w,IntKind.wrap_u8]
         rfl
        refine one_ (i:=8) (N:=some 66) #[true,true,true,true,true,true,true,true,true,false,false,false] rfl rfl (by kernel_rfl) (by decide) (fun K hK => ?_)
        refine value_ (w1:=?_) (v:=?_) (by rfl) rfl ?_ ?_
        rotate_left 2
        ·go_simp
         constructor
         ·rfl
         ·rfl
        refine hK.out _ _ ((zc_ (zk_ HX1.out.H _) 3).trans rfl) (fun hHeld => ?_)
        clear hK K
        refine norm_ (a':=?_) ?_ ?_
        rotate_left
        ·show Act.put _ (some 66) _ = _
         simp only [Act.put,List.setIfInBounds_toArray,List.set_cons_zero,List.set_cons_succ,i64_w,i32_w,IntKind.wrap_u8]
         rfl
        refine one_ (i:=9) (N:=some 67) #[true,true,true,true,true,true,true,true,true,true,false,false] rfl rfl (by kernel_rfl) (by decide) (fun K hK => ?_)
        refine Kd.R_append_step (Kd.int .i64) (w0:=w0) w0.heap.size (by rfl) (.tmp 59) (.tmp 66) 24 3 (.int .i64 0) 8 rfl Try.underlying24 info3 rfl (by decide) (by omega) (.slice Au ksL.length cu) ksL t1 [.int .i64 t1] (fun k_ => some k_ = (.slice Au ksL.length cu : Value).ownBlock ∨ w3.heap.size ≤ k_) (fun _ => False) rfl rfl ?aP (fun _ hk => hk.elim) ?aF ?aO ?aB ?aS ?aL ?_
        (case aP => exact rfl)
        (case aB => exact HS1.out.B)
        (case aF => exact fun k_ hk => .inr hk)
        (case aO => exact Kd.R_mono HX1.out.R (fun _ hk => .inl hk))
        (case aS => exact HS1.out.B.size)
        (case aL => have:=HKL.out;omega)
        intro v5 w5 ho hb hg hat
        rw [← HKE.out] at ho
        have hc5:=HX1.out.cell3 hg
        have hf5:=HX1.out.frz hg
        obtain ⟨A6,c6,rfl⟩:=Kd.R_slice ho
        have HX2:=zm_ (HX1.out.pushed HS1.out ho hg hat)
        have HS2:=zm_ (HS1.out.pushed HX1.out hg hb (v5:=.slice A6 ks2.length c6))
        clear HX1 HS1 ho hb hg hat
        refine hK.out _ _ (hc5) (fun hHeld => ?_)
        clear hK K
        refine norm_ (a':=?_) ?_ ?_
        rotate_left
        ·show Act.put _ (some 67) _ = _
         simp only [Act.put,List.setIfInBounds_toArray,List.set_cons_zero,List.set_cons_succ,i64_w,i32_w,IntKind.wrap_u8]
         rfl
        refine pure_ (i:=10) (N:=some 68) (v:=?_) (a':=?_) #[true,true,true,true,true,true,true,true,true,true,true,false] rfl rfl (by kernel_rfl) (fun _ _ _ h => h) (Or.inl ⟨by rfl,?_⟩) ?_ ?_
        rotate_left
        ·intro w'
         go_simp
         with_reducible rfl
        rotate_left
        ·simp only [Act.put,List.setIfInBounds_toArray,List.set_cons_zero,List.set_cons_succ,i64_w,i32_w,IntKind.wrap_u8]
         rfl
        refine last_ (i:=11) (N:=none) #[true,true,true,true,true,true,true,true,true,true,true,true] rfl rfl (by kernel_rfl) (by decide) (fun K hK => ?_)
        refine skip_ (w1:=?_) (by rfl) rfl ?_ ?_
        rotate_left
        ·go_simp
         rfl
        refine hK.out _ _ ?_
        clear hK K
        refine done_ (by kernel_rfl) ?_
        try go_wp2
        go_roundg r
        case measure => exact Nat.lt_succ_self r
        case rel => exact ⟨_,_,_,_,_,_,_,_,rfl,H',⟨HS2.out⟩,⟨HX2.out⟩⟩
       ·rw [if_neg c6] at H
        have c6b : decide (xI < n) = false:=decide_eq_false c6
        clear c6
        simp only [Option.some.injEq,Prod.mk.injEq] at H
        obtain ⟨rfl,rfl,rfl,rfl⟩:=H
        go_wp2_with (go_at_call 51;(with_reducible refine (spec_l04Kids.calls 2 op n _ HKn.out).mono ?_);rintro e w51 ⟨rfl,⟨mm,hmm⟩⟩;have HX1:=zm_ (HX.out.below (by rw [hmm];exact zn_ (Below.refl _ _) mm : Below _ _ w51));have HS1:=zm_ (HS.out.below (by rw [hmm];exact zn_ (Below.refl _ _) mm : Below _ _ w51));clear HS HX hmm;have HS:=HS1;have HX:=HX1;clear HS1 HX1)
        go_meet
        case rel => exact ⟨_,_,_,_,_,_,_,⟨rfl⟩,⟨HS.out⟩,⟨HX.out⟩⟩
    case rest =>
     clear HS HX HA
     obtain ⟨xa,xc,xs,u,ksL,PL,vL,HE,HS,HX⟩:=hcut
     have hF:=HF.out
     rw [HE.out] at hF
     clear HF HE
     unfold made.fin at hF
     by_cases c1 : out2.length < 1000000
     rotate_left
     ·rw [if_neg c1] at hF;cases hF
     rw [if_pos c1] at hF
     have HOL:=zm_ c1
     clear c1
     simp only [Option.some.injEq,Prod.mk.injEq] at hF
     obtain ⟨hF1,rfl,rfl,hF4⟩:=hF
     obtain ⟨out4,hout4⟩ : ∃ y : List S34,y = out2 ++ [(⟨xa,xc,xs,ksL⟩ : S34)]:=⟨_,rfl⟩
     rw [← hout4] at hF1 hF4
     subst hF4
     have HF:=zm_ hF1
     have HOE:=zm_ hout4
     clear hF1 hout4
     obtain ⟨Au,cu,rfl⟩:=Kd.R_slice HX.out.R
     obtain ⟨Av,cv,rfl⟩:=Kd.S_slice HS.out.S
     try go_wp2_with fail
     have HX1:=zm_ HX.out.drew
     have HS1:=zm_ HS.out.drew
     clear HX HS
     have HX:=HX1
     have HS:=HS1
     clear HX1 HS1
     have ho0:=(zc_ HS.out.H 0).trans rfl
     have hx0:=(zc_ HX.out.H 0).trans rfl
     have hx1:=(zc_ HX.out.H 1).trans rfl
     have hx2:=(zc_ HX.out.H 2).trans rfl
     have hx3:=(zc_ HX.out.H 3).trans rfl
     refine start_ (n:=9) (S:=fun w' => w'.cell? ⟨g3,0,none⟩ = some (.slice Av out2.length cv) ∧ w'.cell? ⟨gx,0,none⟩ = some (.int .i64 xa) ∧ w'.cell? ⟨gx,1,none⟩ = some (.int .i64 xc) ∧ w'.cell? ⟨gx,2,none⟩ = some (.string xs) ∧ w'.cell? ⟨gx,3,none⟩ = some (.slice Au ksL.length cu)) (ds:=[8]) #[false,false,false,false,false,false,false,false,false] (by kernel_rfl) rfl rfl ⟨ho0,hx0,hx1,hx2,hx3⟩ (fun hHeld => ?_)
     generalize wc.drew = w9 at HS HX ho0 hx0 hx1 hx2 hx3 hHeld ⊢
     refine pure_ (i:=0) (N:=some 69) (v:=?_) (a':=?_) #[true,false,false,false,false,false,false,false,false] rfl rfl (by kernel_rfl) (fun _ _ _ h => h) (Or.inl ⟨by rfl,?_⟩) ?_ ?_
     rotate_left
     ·intro w'
      go_simp
      with_reducible rfl
     rotate_left
     ·simp only [Act.put,List.setIfInBounds_toArray,List.set_cons_zero,List.set_cons_succ,i64_w,i32_w,IntKind.wrap_u8]
      rfl
     refine pure_ (i:=1) (N:=some 70) (v:=?_) (a':=?_) #[true,true,false,false,false,false,false,false,false] rfl rfl (by kernel_rfl) (fun _ _ _ h => h) (Or.inl ⟨by rfl,?_⟩) ?_ ?_
     rotate_left
     ·intro w'
      go_simp
      with_reducible rfl
     rotate_left
     ·simp only [Act.put,List.setIfInBounds_toArray,List.set_cons_zero,List.set_cons_succ,i64_w,i32_w,IntKind.wrap_u8]
      rfl
     refine pure_ (i:=2) (N:=some 71) (v:=?_) (a':=?_) #[true,true,true,false,false,false,false,false,false] rfl rfl (by kernel_rfl) (fun _ _ _ h => h) (Or.inl ⟨by rfl,?_⟩) ?_ ?_
     rotate_left
     ·intro w'
      go_simp
      with_reducible rfl
     rotate_left
     ·simp only [Act.put,List.setIfInBounds_toArray,List.set_cons_zero,List.set_cons_succ,i64_w,i32_w,IntKind.wrap_u8]
      rfl
     refine take_ (i:=3) (N:=some 72) (v:=?_) (a':=?_) #[true,true,true,true,false,false,false,false,false] rfl rfl (by kernel_rfl) (fun _ _ _ h => h) (Or.inl ⟨by rfl,?_⟩) hHeld ?_ ?_
     rotate_left
     ·rintro w' ⟨s0,s1,s2,s3,s4⟩
      go_simp
      with_reducible rfl
     rotate_left
     ·simp only [Act.put,List.setIfInBounds_toArray,List.set_cons_zero,List.set_cons_succ,i64_w,i32_w,IntKind.wrap_u8]
      rfl
     refine take_ (i:=4) (N:=some 73) (v:=?_) (a':=?_) #[true,true,true,true,true,false,false,false,false] rfl rfl (by kernel_rfl) (fun _ _ _ h => h) (Or.inl ⟨by rfl,?_⟩) hHeld ?_ ?_
     rotate_left
     ·rintro w' ⟨s0,s1,s2,s3,s4⟩
      go_simp
      with_reducible rfl
     rotate_left
     ·simp only [Act.put,List.setIfInBounds_toArray,List.set_cons_zero,List.set_cons_succ,i64_w,i32_w,IntKind.wrap_u8]
      rfl
     refine one_ (i:=5) (N:=some 74) #[true,true,true,true,true,true,false,false,false] rfl rfl (by kernel_rfl) (by decide) (fun K hK => ?_)
     refine value_ (w1:=?_) (v:=?_) (by rfl) rfl ?_ ?_
     rotate_left 2
     ·go_simp
      constructor
      ·rfl
      ·rfl
     refine hK.out _ _ ⟨(zc_ (zk_ HS.out.H _) 0).trans rfl,(zc_ (zk_ HX.out.H _) 0).trans rfl,(zc_ (zk_ HX.out.H _) 1).trans rfl,(zc_ (zk_ HX.out.H _) 2).trans rfl,(zc_ (zk_ HX.out.H _) 3).trans rfl⟩ (fun hHeld => ?_)
     clear hK K
     refine norm_ (a':=?_) ?_ ?_
     rotate_left
     ·show Act.put _ (some 74) _ = _
      simp only [Act.put,List.setIfInBounds_toArray,List.set_cons_zero,List.set_cons_succ,i64_w,i32_w,IntKind.wrap_u8]
      rfl
     refine one_ (i:=6) (N:=some 75) #[true,true,true,true,true,true,true,false,false] rfl rfl (by kernel_rfl) (by decide) (fun K hK => ?_)
     refine Kd.S_append_step k34 (w0:=w0) w0.heap.size (by rfl) (.tmp 72) (.tmp 74) 26 34 (.agg #[(.int .i64 0),(.int .i64 0),(.string ⟨#[]⟩),(.slice none 0 0)]) 56 rfl Try.underlying26 info34 rfl (by decide) (by omega) (.slice Av out2.length cv) out2 (⟨xa,xc,xs,ksL⟩ : S34) [.int .i64 xa,.int .i64 xc,.string xs,.slice Au ksL.length cu] (fun k_ => PL k_ ∨ some k_ = (.slice Au ksL.length cu : Value).ownBlock ∨ w9.heap.size ≤ k_) (fun k_ => some k_ = (.slice Au ksL.length cu : Value).ownBlock) rfl rfl ?aP ?aK ?aF ?aO ?aB ?aS ?aL ?_
     (case aP => exact k34_mkM _ _ _ _ HX.out.R)
     (case aK => exact HX.out.apart HS.out)
     (case aF => exact fun k_ hk => .inr (.inr hk))
     (case aO => exact HX.out.beside HS.out)
     (case aB => exact HS.out.B)
     (case aS => exact HS.out.B.size)
     (case aL => have:=HOL.out;omega)
     intro v5 w5 ho hb hg hat
     rw [← HOE.out] at ho
     have hc5:=HS.out.cell0 HX.out hg
     have hf5:=HS.out.frz0 HX.out hg
     obtain ⟨A6,c6,rfl⟩:=Kd.S_slice ho
     have hc50 : w5.cell? ⟨g3,0,none⟩ = some (.slice Av out2.length cv):=hc5
     have HS2:=zm_ (HS.out.done HX.out ho hb hg)
     have hx5:=HX.out.kept5 HS.out hg
     clear ho hb hg hat
     refine hK.out _ _ ⟨hc5,(zc_ hx5 0).trans rfl,(zc_ hx5 1).trans rfl,(zc_ hx5 2).trans rfl,(zc_ hx5 3).trans rfl⟩ (fun hHeld => ?_)
     clear hK K
     refine norm_ (a':=?_) ?_ ?_
     rotate_left
     ·show Act.put _ (some 75) _ = _
      simp only [Act.put,List.setIfInBounds_toArray,List.set_cons_zero,List.set_cons_succ,i64_w,i32_w,IntKind.wrap_u8]
      rfl
     refine pure_ (i:=7) (N:=some 76) (v:=?_) (a':=?_) #[true,true,true,true,true,true,true,true,false] rfl rfl (by kernel_rfl) (fun _ _ _ h => h) (Or.inl ⟨by rfl,?_⟩) ?_ ?_
     rotate_left
     ·intro w'
      go_simp
      with_reducible rfl
     rotate_left
     ·simp only [Act.put,List.setIfInBounds_toArray,List.set_cons_zero,List.set_cons_succ,i64_w,i32_w,IntKind.wrap_u8]
      rfl
     refine last_ (i:=8) (N:=none) #[true,true,true,true,true,true,true,true,true] rfl rfl (by kernel_rfl) (by decide) (fun K hK => ?_)
     refine skip_ (w1:=?_) (by rfl) rfl ?_ ?_
     rotate_left
     ·go_simp
      rfl
     refine hK.out _ _ ?_
     clear hK K
     refine done_ (by kernel_rfl) ?_
     obtain ⟨P2,HS3⟩:=HS2.out
     go_wp2_with fail
     go_ret
     exact ⟨by rw [← HF.out];rfl,_,P2,HS3⟩
theorem made.raiseI {w : World} {base base' : Nat} {ok : Nat → Prop} {v : Value} {xs : List Int} (h : Kd.R (Kd.int .i64) 3 w base ok v xs) (hb : ∀ k,ok k → base' ≤ k) : Kd.R (Kd.int .i64) 3 w base' ok v xs:=by
 obtain ⟨h0,inner,⟨hlen,ho⟩,hr⟩:=h
 refine ⟨h0,inner,⟨hlen,?_⟩,hr⟩
 rcases ho with ⟨rfl,hn⟩|⟨g,cap,cur,rfl,hb1,rest⟩
 ·exact .inl ⟨rfl,hn⟩
 ·exact .inr ⟨g,cap,cur,rfl,hb g (h0 g rfl),rest⟩
theorem made.raise {w : World} {base base' : Nat} {ok : Nat → Prop} {v : Value} {xs : List S34} (h : Kd.S k34 34 w base ok v xs) (hb : ∀ k,ok k → base' ≤ k) : Kd.S k34 34 w base' ok v xs:=by
 obtain ⟨f,h0,inner,⟨hlen,ho⟩,hr⟩:=h
 refine ⟨f,h0,inner,⟨hlen,?_⟩,⟨hr.1,fun j p hj => ?_⟩⟩
 ·rcases ho with ⟨rfl,hn⟩|⟨g,cap,cur,rfl,hb1,rest⟩
  ·exact .inl ⟨rfl,hn⟩
  ·exact .inr ⟨g,cap,cur,rfl,hb g (h0 g rfl),rest⟩
 ·obtain ⟨v3,he,hR⟩:=k34_openM (hr.2 j p hj)
  show k34.M w base' _ p.1 _
  rw [show ((inner.drop (j * (Kd.tag f k34).sz)).take (Kd.tag f k34).sz) = [.int .i64 p.1.f0,.int .i64 p.1.f1,.string p.1.f2,v3] from he]
  exact k34_mkM _ _ _ _ (made.raiseI hR (fun k hk => hb k hk.1.1))

def spec_l04Expr.f (s0_0 : List Int) (s0_1 : Int) (s0_2 : Int) (l1 : List ByteArray) (a2 : Int) : Option ((List (S34)) × Int × Int):=(spec_l04Made.f 4 s0_0 l1 a2 s0_1 s0_2 []).bind fun t => some (t.2.2.2,t.2.1,t.2.2.1)
set_option maxHeartbeats 8000000 in
set_option maxRecDepth 100000 in
theorem spec_l04Expr.calls (g : Nat) (s0_0 : List Int) (s0_1 : Int) (s0_2 : Int) (A1 : Option Addr) (c1 : Nat) (l1 : List ByteArray) (a2 : Int) (r1 : List (S34)) (r2 : Int) (r3 : Int) (w0 w : World) (hI : IsS109 w0 w g s0_0 s0_1 s0_2) (hB : Below w0.heap.size w0 w) (hr1 : Kd.C Kd.string w A1 l1.length l1) (hc1 : l1.length ≤ c1) (hf1 : ∀ ad,A1 = some ad → 0 < l1.length → ad.block ≠ g) (h : spec_l04Expr.f s0_0 s0_1 s0_2 l1 a2 = some (r1,r2,r3)) :
  Calls Try.prog 53 #[.pointer (some ⟨g,0,none⟩),.slice A1 l1.length c1,.int .i64 a2] w fun e w' => ∃ v0_ : Value,e = .returned (.agg #[v0_]) ∧ Kd.S k34 34 w' w.heap.size (fun _ => True) v0_ r1 ∧ IsS109 w0 w' g s0_0 r2 r3 ∧ Below w0.heap.size w0 w' ∧ KeepBut w w' g none:=by
 have hu28:=Try.underlying28
 have HR1:=zm_ hr1
 have HC1:=zm_ hc1
 have HI:=zm_ hI
 have HB0:=zm_ hB
 have HF1:=zm_ hf1
 have HB:=zm_ (Below.refl w.heap.size w)
 clear hr1 hc1 hI hB hf1
 unfold spec_l04Expr.f at h
 obtain ⟨⟨t1,t2,t3,t4⟩,hm,he⟩:=Option.bind_eq_some_iff.mp h
 have HM:=zm_ hm
 clear hm h
 simp only [Option.some.injEq,Prod.mk.injEq] at he
 obtain ⟨rfl,rfl,rfl⟩:=he
 obtain ⟨z0,hz0⟩ : ∃ y : List S34,y = []:=⟨_,rfl⟩
 have Nz:=zm_ hz0
 clear hz0
 go_enter Try.func53,Try.ntmps53
 go_upto_region 2 with (first
  |((with_reducible refine gate_dst (N:=6) rfl ?_);refine box_event ?hg (N:=6) ?hd (cs:=#[.slice none 0 0]) (t:=28) ?hr ?_;(case hd => rfl);(case hg => rfl);(case hr => first|(go_simp;done)|(go_simp;rfl));intro gb hgb w5 hbox hb;have BK:=zm_ hbox;have GB:=zm_ (show w.heap.size ≤ gb by rw [hgb];exact HB.out.size);have HB1:=zm_ (below_step HB.out hb);clear HB hb hbox hgb;have HB:=HB1;clear HB1)
  |((with_reducible refine gate_dst (N:=8) rfl ?_);refine Kd.S_lit k34 _ 34 ?hg (N:=8) ?hd (xs:=([] : List (S34))) (inner:=[]) (ok:=fun k_ => k_ = w5.heap.size) (okp:=fun k_ => k_ = w5.heap.size) ?hr ?hp (fun _ hk => hk) rfl (Below.refl _ _) (Nat.le_refl _) (by simp) ?_;(case hd => rfl);(case hg => rfl);(case hr => first|(go_simp;done)|(go_simp;rfl));(case hp => exact (Reps.none _ _));intro v6 w6 ho hb hg_ hnew_;clear hg_ hnew_;rw [← Nz.out] at ho;have HO:=zm_ ho;have BK1:=zm_ (blk_below BK.out hb);have NB:=zm_ (show gb ≠ w5.heap.size from Nat.ne_of_lt (blk_lt BK.out));have HW5:=zm_ HB.out.size;have HB1:=zm_ (below_step HB.out hb);clear HB BK hb ho;have HB:=HB1;have BK:=BK1;clear HB1 BK1;obtain ⟨Ao6,co6,eo6⟩:=Kd.S_slice HO.out;subst eo6)
  |((with_reducible refine gate_dst (N:=7) rfl ?_);refine box_event ?hg (N:=7) ?hd (cs:=#[.slice none 0 0]) (t:=26) ?hr ?_;(case hd => rfl);(case hg => rfl);(case hr => first|(go_simp;done)|(go_simp;rfl));intro g7 hg7 w7 hbox hb;have B7:=zm_ hbox;have G7:=zm_ (show w.heap.size ≤ g7 by rw [hg7];exact HB.out.size);have NG:=zm_ (show gb ≠ g7 by rw [hg7];exact Nat.ne_of_lt (blk_lt BK.out));have BK1:=zm_ (blk_below BK.out hb);have HO1:=zm_ (Kd.S_below HO.out hb);have HB1:=zm_ (below_step HB.out hb);clear HB BK HO hb hg7;have HB:=HB1;have BK:=BK1;have HO:=HO1;clear HB1 BK1 HO1;have hx0:=(zc_ hbox 0).trans rfl;have hf0:=zf_ hbox 0;clear hbox))
 clear hx0 hf0
 have HB1:=zm_ (zs_ (j:=0) (v:=.slice Ao6 z0.length co6) HB.out G7.out)
 have BK1:=zm_ (blk_far (p:=⟨g7,0,none⟩) BK.out NG.out (.slice Ao6 z0.length co6))
 have B71:=zm_ (blk_put B7.out 0 (.slice Ao6 z0.length co6) rfl)
 have HO1:=zm_ (Kd.S_bound (Kd.S_set HO.out B7.out (by decide) 0 (.slice Ao6 z0.length co6)))
 generalize w7.setCell ⟨g7,0,none⟩ (.slice Ao6 z0.length co6) = w8 at HB1 BK1 B71 HO1 ⊢
 clear HB BK B7 HO
 have HB:=HB1
 have BK:=BK1
 have B7:=B71
 have HO:=HO1
 clear HB1 BK1 B71 HO1
 obtain ⟨P,hP⟩ : ∃ P : Nat → Prop,P = (fun k => k = w5.heap.size ∧ w5.heap.size ≤ k ∧ k < w8.heap.size ∧ ∃ q,q ∈ 34 :: k34.E ∧ ∃ cells,w8.heap[k]? = some (.cells cells q (0,0))):=⟨_,rfl⟩
 have HM0:=zm_ (show Mst w0 w8 w8 g g7 P P s0_0 s0_1 s0_2 (.slice Ao6 z0.length co6) z0 from ⟨HI.out.below HB.out,below_step HB0.out HB.out,Nat.le_trans HB0.out.size HB.out.size,B7.out,Nat.le_trans HB0.out.size G7.out,by rw [hP];exact Kd.S_lower HO.out (Nat.le_trans HB0.out.size HW5.out),Kept.refl _ _,fun _ hq => .inl hq,fun q hq => by rw [hP] at hq;exact hq.2.2.1⟩)
 have HP5:=zm_ (show ∀ q,P q → q = w5.heap.size from fun q hq => by rw [hP] at hq;exact hq.1)
 clear hP
 have HKP:=zm_ (show ∀ W',Kept w8 W' (fun q => q = g ∨ q = g7 ∨ P q) → KeepBut w W' g none from fun W' hk => ⟨Nat.le_trans HB.out.size hk.1,fun i hi hg _ => (hk.2 i (Nat.lt_of_lt_of_le hi HB.out.size) (by
  rintro (h|h|h)
  ·exact hg h
  ·have:=G7.out;omega
  ·have:=HP5.out i h;have:=HW5.out;omega)).trans (HB.out.block i hi)⟩)
 have HN:=zm_ (show ∀ W',Kept w8 W' (fun q => q = g ∨ q = g7 ∨ P q) → Kd.C Kd.string W' A1 l1.length l1 from fun W' hk => Kd.C_keep ByteArray.empty HR1.out (HKP.out W' hk) HF1.out)
 rw [← Nz.out] at HM
 go_upto_region 3 with (go_at_call 82;(with_reducible refine (spec_l04Made.calls s0_0 l1 4 a2 s0_1 s0_2 z0 t1 t2 t3 t4 g g7 A1 c1 P (.slice Ao6 z0.length co6) w0 _ HM0.out HN.out HC1.out HM.out).mono ?_);rintro e w9 ⟨rfl,v9,P9,hm9⟩;have HM9:=zm_ hm9;clear hm9)
 obtain ⟨Ao9,co9,rfl⟩:=Kd.S_slice HM9.out.S
 have HBK:=zm_ (blk_kept BK.out HM9.out.K (by
  rintro (h|h|h)
  ·exact HI.out.below HB.out |>.ne_blk BK.out (by decide) h.symm
  ·exact NG.out h
  ·exact NB.out (HP5.out _ h)))
 have hx0:=(zc_ HBK.out 0).trans rfl
 have hf0:=zf_ HBK.out 0
 have hc7:=(zc_ HM9.out.H 0).trans rfl
 go_wp2_with fail
 have hgb : g ≠ gb:=HM9.out.I.ne_blk HBK.out (by decide)
 have hs9 : Kd.S k34 34 w9 w.heap.size P9 (.slice Ao9 t4.length co9) t4:=made.raise HM9.out.S (fun k hk => (HM9.out.N k hk).elim (fun h => by have:=HP5.out k h;have:=HW5.out;omega) (fun h => Nat.le_trans HB.out.size h))
 refine bodyPost_ret (results_cell_row rfl _ _ gb 28 #[.slice Ao9 t4.length co9] (0,0) _ rfl (blk_put HBK.out 0 _ rfl) Try.underlying28 rfl (by kernel_rfl)) rfl ?_
 exact ⟨_,rfl,Kd.S_mono (Kd.S_set hs9 HBK.out (by decide) 0 _) (fun _ _ => trivial),HM9.out.I.far hgb _,zs_ HM9.out.B (Nat.le_trans HB0.out.size GB.out),keep_far (HKP.out _ HM9.out.K) GB.out _⟩

def spec_DrawExpr.f (k : Nat) (l0 : List Int) : Option ((List (S34))):=(spec_l01New.f k l0).bind fun bt216 => ((spec_l04Expr.f bt216.1 bt216.2.1 bt216.2.2 (([(⟨#[97]⟩ : ByteArray),(⟨#[98]⟩ : ByteArray),(⟨#[110]⟩ : ByteArray)] : List ByteArray)) 2).bind fun bt223 => (some bt223.1))
theorem spec_DrawExpr.mono : ∀ a0 k,LeO (spec_DrawExpr.f k a0) (spec_DrawExpr.f (k + 1) a0):=by
 intro a0 k
 unfold spec_DrawExpr.f
 repeat' first
   |(with_reducible exact spec_l01New.mono _ _)
   |(with_reducible exact LeO.refl _)
   |(with_reducible exact LeO.none _)
   |(with_reducible refine LeO.ite ?_ ?_)
   |(with_reducible refine LeO.bind ?_ (fun _ => ?_))
set_option maxHeartbeats 8000000 in
set_option maxRecDepth 100000 in
theorem spec_DrawExpr.calls (k : Nat) (A0 : Option Addr) (c0 : Nat) (l0 : List Int) (r : List (S34)) (w : World) (hr0 : Kd.C (Kd.int .u8) w A0 l0.length l0) (hc0 : l0.length ≤ c0) (h : spec_DrawExpr.f k l0 = some r) :
  Calls Try.prog 16 #[.slice A0 l0.length c0] w fun e w' => ∃ v0_ : Value,e = .returned (.agg #[v0_]) ∧ Kd.S k34 34 w' w.heap.size (fun _ => True) v0_ r ∧ Below w.heap.size w w':=by
 have hu28:=Try.underlying28
 have HR0:=zm_ hr0
 have HC0:=zm_ hc0
 clear hr0 hc0
 have HB:=zm_ (Below.refl w.heap.size w)
 have H : ((spec_l01New.f k l0).bind fun bt216 => ((spec_l04Expr.f bt216.1 bt216.2.1 bt216.2.2 (([(⟨#[97]⟩ : ByteArray),(⟨#[98]⟩ : ByteArray),(⟨#[110]⟩ : ByteArray)] : List ByteArray)) 2).bind fun bt223 => (some bt223.1))) = some r:=h
 clear h
 replace H:=Option.bind_eq_some_iff.mp H
 obtain ⟨⟨t216,t217,t218⟩,A20,H⟩:=H
 replace H : ((spec_l04Expr.f t216 t217 t218 (([(⟨#[97]⟩ : ByteArray),(⟨#[98]⟩ : ByteArray),(⟨#[110]⟩ : ByteArray)] : List ByteArray)) 2).bind fun bt223 => (some bt223.1)) = some r:=H
 have A2:=zm_ A20
 clear A20
 obtain ⟨y220,hy220⟩ : ∃ y_ : List ByteArray,y_ = (([(⟨#[97]⟩ : ByteArray),(⟨#[98]⟩ : ByteArray),(⟨#[110]⟩ : ByteArray)] : List ByteArray)):=⟨_,rfl⟩
 replace H : ((spec_l04Expr.f t216 t217 t218 y220 2).bind fun bt223 => (some bt223.1)) = some r:=by first|(rw [hy220];with_reducible exact H)|(have H2_:=(Option.bind_some _ _).symm.trans H;rw [hy220];with_reducible exact H2_)|(have H2_:=(Option.bind_some _ _).symm.trans H;with_reducible exact H2_)|with_reducible exact H|(rw [hy220];exact H)|exact H
 have Ny220:=zm_ hy220
 clear hy220
 replace H:=Option.bind_eq_some_iff.mp H
 obtain ⟨⟨t223,t226,t227⟩,A30,H⟩:=H
 replace H : (some t223) = some r:=H
 have A3:=zm_ A30
 clear A30
 obtain rfl:=Option.some.inj H
 go_enter Try.func16,Try.ntmps16
 go_wp2_with (first|((with_reducible refine gate_dst (N:=2) rfl ?_);refine box_event ?hg (N:=2) ?hd (cs:=#[.slice none 0 0]) (t:=28) ?hr ?_;(case hd => rfl);(case hg => rfl);(case hr => first|(go_simp;done)|(go_simp;rfl));intro gb215 hg w4 hbox hb;have n0_:=zm_ (below_step zB_ hb);have n1_:=zm_ (hbox);have n2_:=zm_ ((by rw [hg];exact (below_size zB_) : w.heap.size ≤ gb215));have n3_:=zm_ ((by rw [hg];exact (below_size zB_) : w.heap.size ≤ gb215));clear HB;have HB:=n0_;have BK215:=n1_;have GW215:=n2_;have GE215:=n3_;clear n0_ n1_ n2_ n3_;clear hb hbox hg)|((with_reducible refine gate_callee (f:=41) rfl ?_);refine goesL_ (some 5) rfl rfl Try.func41 (by kernel_rfl) rfl #[.slice A0 l0.length c0] rfl zq_ ?_;(with_reducible refine (spec_l01New.calls k _ _ l0 t216 t217 t218 w _ ?side1 ?side2 ?side3 A2.out).mono ?_);(case side1 => repeat (first|(with_reducible first|exact HB.out|apply za_|apply zn_|apply zd_|refine zs_ ?_ GE215.out)|exact HB.out));(case side2 => exact HR0.out);(case side3 => exact HC0.out);rintro e w5 ⟨g219,rfl,hi,hb,hb2⟩;refine ⟨_,rfl,?_⟩;have n0_:=zm_ (blk_below (g:=gb215) (o:=.cells #[.slice none 0 0] 28 (0,0)) zt5_1 hb2);have n1_:=zm_ (hb);have n2_:=zm_ (hi);have n3_:=zm_ (IsS109.ne_blk hi (blk_below (g:=gb215) (o:=.cells #[.slice none 0 0] 28 (0,0)) zt5_1 hb2) (by decide));have n4_:=zm_ (Ne.symm (IsS109.ne_blk hi (blk_below (g:=gb215) (o:=.cells #[.slice none 0 0] 28 (0,0)) zt5_1 hb2) (by decide)));clear BK215;clear HB;have BK215:=n0_;have HB:=n1_;have HI219:=n2_;have NB219_215:=n3_;have NB215_219:=n4_;clear n0_ n1_ n2_ n3_ n4_;(try clear hb);(try clear hb2);(try clear hk);(try clear hi))|((with_reducible refine gate_dst (N:=7) rfl ?_);refine Kd.R_lit Kd.string _ 9 ?hg (N:=7) ?hd (xs:=([(⟨#[97]⟩ : ByteArray),(⟨#[98]⟩ : ByteArray),(⟨#[110]⟩ : ByteArray)] : List ByteArray)) (inner:=[.string (⟨#[97]⟩ : ByteArray),.string (⟨#[98]⟩ : ByteArray),.string (⟨#[110]⟩ : ByteArray)]) (ok:=fun _ => True) (okp:=fun _ => True) ?hr ?hp (fun _ hk => hk) trivial (Below.refl _ _) (Nat.le_refl _) (by simp) ?_;(case hd => rfl);(case hg => rfl);(case hr => first|(go_simp;done)|(go_simp;rfl));(case hp => exact (Reps.one (show Kd.M Kd.string _ _ _ (⟨#[97]⟩ : ByteArray) [.string (⟨#[97]⟩ : ByteArray)] from rfl) (Reps.one (show Kd.M Kd.string _ _ _ (⟨#[98]⟩ : ByteArray) [.string (⟨#[98]⟩ : ByteArray)] from rfl) (Reps.one (show Kd.M Kd.string _ _ _ (⟨#[110]⟩ : ByteArray) [.string (⟨#[110]⟩ : ByteArray)] from rfl) (Reps.none _ _)))));intro v221 w6 ho7 hb hg_ hnew_;clear hg_ hnew_;(first|rw [← Ny220.out] at ho7|(simp only [Int.reduceToNat] at ho7;rw [← Ny220.out] at ho7));have n0_:=zm_ (Kd.R_lower ho7 (below_size zt5_2));have n1_:=zm_ (blk_below (g:=gb215) (o:=.cells #[.slice none 0 0] 28 (0,0)) zt5_1 hb);have n2_:=zm_ (IsS109.below (by repeat (first|(with_reducible first|exact HI219.out|apply IsS109.alloc|apply IsS109.drewN|apply IsS109.drew|apply IsS109.set_1|apply IsS109.set_2|refine IsS109.far ?_ NB219_215.out _)|exact HI219.out)) hb);have n3_:=zm_ (below_step zt5_2 hb);clear BK215;clear HI219;clear HB;have HO222:=n0_;have BK215:=n1_;have HI219:=n2_;have HB:=n3_;clear n0_ n1_ n2_ n3_;clear hb ho7;obtain ⟨Ao8,co8,eo8⟩:=Kd.R_slice HO222.out;subst eo8)|((with_reducible refine gate_callee (f:=53) rfl ?_);refine goesL_ (some 8) rfl rfl Try.func53 (by kernel_rfl) rfl #[.pointer (some ⟨g219,0,none⟩),.slice Ao8 y220.length co8,.int .i64 2] rfl zq_ ?_;(with_reducible refine (spec_l04Expr.calls g219 t216 t217 t218 _ _ y220 2 t223 t226 t227 w _ ?side1 ?side2 ?side3 ?side4 ?side5 A3.out).mono ?_);(case side1 => repeat (first|(with_reducible first|exact HI219.out|apply IsS109.alloc|apply IsS109.drewN|apply IsS109.drew|apply IsS109.set_1|apply IsS109.set_2|refine IsS109.far ?_ NB219_215.out _)|exact HI219.out));(case side2 => repeat (first|(with_reducible first|exact HB.out|apply za_|apply zn_|apply zd_|refine zs_ ?_ (IsS109.ge HI219.out)|refine zs_ ?_ GE215.out)|exact HB.out));(case side3 => repeat (first|exact (Kd.R_reads' HO222.out).2.2|(with_reducible refine Kd.C_alloc ?_ _)|(with_reducible refine Kd.C_drewN ?_ _)|(with_reducible refine Kd.C_drew ?_)));(case side4 => exact (Kd.R_reads' HO222.out).2.1);(case side5 => exact far_slice (IsS109.own_ne HI219.out HO222.out (by decide)));rintro e w9 ⟨v224,rfl,ho0,hi,hb,hk⟩;refine ⟨_,rfl,?_⟩;have n0_:=zm_ (KeepBut.blk hk (g':=gb215) (o:=.cells #[.slice none 0 0] 28 (0,0)) zt5_1 NB215_219.out (by simp));have n1_:=zm_ (Kd.R_mono (Kd.R_keep (IsS109.apart (show IsS109 w _ g219 t216 t217 t218 from by repeat (first|(with_reducible first|exact HI219.out|apply IsS109.alloc|apply IsS109.drewN|apply IsS109.drew|apply IsS109.set_1|apply IsS109.set_2|refine IsS109.far ?_ NB219_215.out _)|exact HI219.out)) (by (with_reducible repeat (first|apply Kd.R_alloc|apply Kd.R_drewN|apply Kd.R_drew));exact HO222.out) (by decide)) hk (fun _ h => h.2)) (fun _ h => h.1));have n2_:=zm_ (Kd.S_lower ho0 (below_size zt5_2));have n3_:=zm_ (hb);have n4_:=zm_ (hi);clear BK215;clear HO222;clear HB;clear HI219;have BK215:=n0_;have HO222:=n1_;have HO225:=n2_;have HB:=n3_;have HI219:=n4_;clear n0_ n1_ n2_ n3_ n4_;(try clear hb);(try clear hb2);(try clear hk);(try clear hi);(try clear ho0);obtain ⟨Ao10,co10,eo10⟩:=Kd.S_slice HO225.out;subst eo10;have hnb11:=NB215_219.out;have hnc11:=NB219_215.out;have hcz12_0 : w9.cell? ⟨gb215,0,none⟩ = some (.slice none 0 0):=(zc_ BK215.out 0).trans rfl;have hfz12_0:=zf_ BK215.out 0))
 refine bodyPost_ret (results_cell_row rfl _ _ gb215 28 #[.slice Ao10 t223.length co10] (0,0) _ rfl (by (with_reducible repeat first|refine zl_ ?_ _|refine zr_ ?_|refine zk_ ?_ _);refine blk_put (cs:=#[.slice none 0 0]) ?_ 0 _ rfl;(with_reducible repeat first|refine zl_ ?_ _|refine zr_ ?_|refine zk_ ?_ _);exact BK215.out) Try.underlying28 rfl (by kernel_rfl)) rfl ?_
 exact ⟨_,by first|rfl|(simp [errW_none,errW_some] <;> rfl)|(simp [*,errW_none,errW_some] <;> rfl),by (with_reducible repeat (first|apply Kd.S_alloc|apply Kd.S_drewN|apply Kd.S_drew));exact Kd.S_mono (Kd.S_far (p:=⟨gb215,0,none⟩) (Kd.S_types HO225.out BK215.out (by decide)) (fun _ hk => hk.2) (.slice Ao10 t223.length co10)) (fun _ hk => trivial),by repeat (first|(with_reducible first|exact HB.out|apply za_|apply zn_|apply zd_|refine zs_ ?_ (IsS109.ge HI219.out)|refine zs_ ?_ GE215.out)|exact HB.out)⟩

def spec_l01In.f (a0 : Int) (a1 : Int) (a2 : Int) : Option (Bool):=if a0 ≥ a1 then (some (decide (a0 ≤ a2))) else (some false)
set_option maxHeartbeats 8000000 in
set_option maxRecDepth 100000 in
theorem spec_l01In.calls (a0 : Int) (a1 : Int) (a2 : Int) (r : Bool) (w : World) (h : spec_l01In.f a0 a1 a2 = some r) :
  Calls Try.prog 50 #[.int .i64 a0,.int .i64 a1,.int .i64 a2] w fun e w' => e = .returned (.bool r) ∧ Drawn0 w w':=by
 have H : (if a0 ≥ a1 then (some (decide (a0 ≤ a2))) else (some false)) = some r:=h
 clear h
 by_cases c4 : a0 ≥ a1
 ·rw [if_pos c4] at H
  have c4b0 : decide (a1 ≤ a0) = true:=decide_eq_true c4
  clear c4
  obtain rfl:=Option.some.inj H
  go_enter Try.func50,Try.ntmps50
  go_wp2
  go_ret
  exact ⟨by first|rfl|(simp;done)|(simp [*];done),by repeat (first|exact Drawn0.refl _|apply Drawn0.step)⟩
 ·rw [if_neg c4] at H
  have c4b0 : decide (a1 ≤ a0) = false:=decide_eq_false c4
  clear c4
  obtain rfl:=Option.some.inj H
  go_enter Try.func50,Try.ntmps50
  go_wp2
  go_ret
  exact ⟨by first|rfl|(simp;done)|(simp [*];done),by repeat (first|exact Drawn0.refl _|apply Drawn0.step)⟩

end Go.Proofs.Ytnmhggdaccbbfaa.MFnExprs
