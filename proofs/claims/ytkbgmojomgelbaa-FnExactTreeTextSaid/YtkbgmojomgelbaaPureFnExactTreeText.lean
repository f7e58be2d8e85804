/- FnExactTreeText without Go: at every grammar and tree the program's TreeText and the reference's answer the same. -/
import Derived.Test.YtkbgmojomgelbaaMFnExactTreeTextok
import Derived.Lib.Join
set_option linter.unusedVariables false
set_option linter.unusedSimpArgs false
set_option maxHeartbeats 400000
namespace Go.Proofs.Ytkbgmojomgelbaa.Pure
open Go.RowKit Go.Proofs.Ytkbgmojomgelbaa.MFnExactTreeText Go.Proofs.YtkbgmojomgelbaaW.PrintWords Go.Proofs.YtkbgmojomgelbaaW.PrintLast
theorem w64 {n : Int} (h : -9223372036854775808 ≤ n) (h' : n ≤ 9223372036854775807) : wrap64 n = n:=by unfold wrap64;omega
theorem drop_get {α : Type} (xs : List α) (i : Nat) (h : i < xs.length) : xs.drop i = xs[i] :: xs.drop (i + 1):=List.drop_eq_getElem_cons h
theorem w64_len {i n : Nat} (h : i < n) (hn : n ≤ 9223372036854775807) : wrap64 ((i : Int) + 1) = ((i + 1 : Nat) : Int):=by
 rw [w64 (by omega) (by omega)];omega
theorem take_set {α : Type} (acc : List α) (i : Nat) (v : α) (h : i < acc.length) : (acc.set i v).take (i + 1) = acc.take i ++ [v]:=by
 rw [List.take_add_one,List.getElem?_set_self h,List.take_set_of_le (Nat.le_refl i)];rfl
theorem gen_to {α β : Type} (L : Nat → List α → List β → Int → Option (List β)) (c : α → β) (xs : List α) (K : Nat)
  (hstep : ∀ (k i : Nat) (acc : List β) (h : i < xs.length),acc.length = xs.length → K ≤ k → L (k + 1) xs acc (i : Int) = L k xs (acc.set i (c xs[i])) ((i + 1 : Nat) : Int))
  (hend : ∀ (k : Nat) (acc : List β),L (k + 1) xs acc (xs.length : Int) = some acc) (k : Nat) (acc : List β) (hk : K + xs.length < k) (ha : acc.length = xs.length) : L k xs acc 0 = some (xs.map c):=by
 have go : ∀ (d k i : Nat) (acc : List β),xs.length - i ≤ d → K + d < k → i ≤ xs.length → acc.length = xs.length → acc.take i = (xs.take i).map c → L k xs acc (i : Int) = some (xs.map c):=by
  intro d
  induction d with
  | zero =>
   intro k i acc hd hk hi ha ht
   obtain ⟨k,rfl⟩ : ∃ m,k = m + 1:=⟨k - 1,by omega⟩
   obtain rfl : i = xs.length:=by omega
   rw [hend]
   rw [List.take_length,← ha,List.take_length] at ht
   rw [ht]
  | succ d ih =>
   intro k i acc hd hk hi ha ht
   obtain ⟨k,rfl⟩ : ∃ m,k = m + 1:=⟨k - 1,by omega⟩
   by_cases hi2 : i < xs.length
   ·rw [hstep k i acc hi2 ha (by omega)]
    refine ih k (i + 1) _ (by omega) (by omega) (by omega) (by rw [List.length_set];exact ha) ?_
    rw [take_set acc i _ (by omega),ht,List.take_add_one,List.getElem?_eq_getElem hi2,List.map_append]
    rfl
   ·obtain rfl : i = xs.length:=by omega
    rw [hend]
    rw [List.take_length,← ha,List.take_length] at ht
    rw [ht]
 exact go xs.length k 0 acc (by omega) hk (by omega) ha (by simp)
theorem gen_eq {β : Type} (L : Nat → List β → List β → Int → Option Bool) (xs : List β) (K : Nat)
  (hstep : ∀ (k i : Nat),i < xs.length → K ≤ k → L (k + 1) xs xs (i : Int) = L k xs xs ((i + 1 : Nat) : Int))
  (hend : ∀ k : Nat,L (k + 1) xs xs (xs.length : Int) = some true) (k : Nat) (hk : K + xs.length < k) : L k xs xs 0 = some true:=by
 have go : ∀ (d k i : Nat),xs.length - i ≤ d → K + d < k → i ≤ xs.length → L k xs xs (i : Int) = some true:=by
  intro d
  induction d with
  | zero =>
   intro k i hd hk hi
   obtain ⟨k,rfl⟩ : ∃ m,k = m + 1:=⟨k - 1,by omega⟩
   obtain rfl : i = xs.length:=by omega
   exact hend k
  | succ d ih =>
   intro k i hd hk hi
   obtain ⟨k,rfl⟩ : ∃ m,k = m + 1:=⟨k - 1,by omega⟩
   by_cases hi2 : i < xs.length
   ·rw [hstep k i hi2 (by omega)]
    exact ih k (i + 1) (by omega) (by omega) (by omega)
   ·obtain rfl : i = xs.length:=by omega
    exact hend k
 exact go xs.length k 0 (by omega) hk (by omega)
theorem gen_sz {α : Type} (L : Nat → List α → Int → Int → Option Int) (xs : List α) (P : α → Prop) (K : Nat)
  (hstep : ∀ (k i : Nat) (left : Int) (h : i < xs.length),0 ≤ left → left ≤ 1048576 → K ≤ k → L (k + 1) xs left (i : Int) = some (-1) ∨ ∃ t,0 ≤ t ∧ t ≤ left ∧ P xs[i] ∧ L (k + 1) xs left (i : Int) = L k xs t ((i + 1 : Nat) : Int))
  (hend : ∀ (k : Nat) (left : Int),L (k + 1) xs left (xs.length : Int) = some left) (k : Nat) (left : Int) (hk : K + xs.length < k) (h0 : 0 ≤ left) (h1 : left ≤ 1048576) :
  L k xs left 0 = some (-1) ∨ ∃ r,L k xs left 0 = some r ∧ 0 ≤ r ∧ r ≤ left ∧ ∀ y ∈ xs,P y:=by
 have go : ∀ (d k i : Nat) (left : Int),xs.length - i ≤ d → K + d < k → i ≤ xs.length → 0 ≤ left → left ≤ 1048576 → L k xs left (i : Int) = some (-1) ∨ ∃ r,L k xs left (i : Int) = some r ∧ 0 ≤ r ∧ r ≤ left ∧ ∀ y ∈ xs.drop i,P y:=by
  intro d
  induction d with
  | zero =>
   intro k i left hd hk hi h0 h1
   obtain ⟨k,rfl⟩ : ∃ m,k = m + 1:=⟨k - 1,by omega⟩
   obtain rfl : i = xs.length:=by omega
   exact .inr ⟨left,hend k left,h0,Int.le_refl _,by simp⟩
  | succ d ih =>
   intro k i left hd hk hi h0 h1
   obtain ⟨k,rfl⟩ : ∃ m,k = m + 1:=⟨k - 1,by omega⟩
   by_cases hi2 : i < xs.length
   ·rcases hstep k i left hi2 h0 h1 (by omega) with h | ⟨t,t0,t1,hp,h⟩
    ·exact .inl h
    ·rw [h]
     rcases ih k (i + 1) t (by omega) (by omega) (by omega) t0 (by omega) with h | ⟨r,hr,r0,r1,ha⟩
     ·exact .inl h
     ·refine .inr ⟨r,hr,r0,by omega,fun y hy => ?_⟩
      rw [drop_get xs i hi2,List.mem_cons] at hy
      rcases hy with rfl | hy
      ·exact hp
      ·exact ha y hy
   ·obtain rfl : i = xs.length:=by omega
    exact .inr ⟨left,hend k left,h0,Int.le_refl _,by simp⟩
 have:=go xs.length k 0 left (by omega) hk (by omega) h0 h1
 simpa using this
theorem rdInt (xs : List Int) (i : Nat) (h : i < xs.length) : rd xs (i : Int) = xs[i]:=by simp [rd,List.getD,h]
theorem szIntS_is (xs : List Int) (hl : xs.length ≤ 9223372036854775807) (left : Int) (h0 : 0 ≤ left) (h1 : left ≤ 1048576) : laws_szIntS.f xs left = some (-1) ∨ ∃ t,laws_szIntS.f xs left = some t ∧ 0 ≤ t ∧ t ≤ left ∧ xs.length ≤ 1048576:=by
 unfold laws_szIntS.f
 rw [w64 (n:=left - (xs.length : Int)) (by omega) (by omega)]
 by_cases h : left - (xs.length : Int) < 0
 ·rw [if_pos h];exact .inl rfl
 ·rw [if_neg h];exact .inr ⟨_,rfl,by omega,by omega,by omega⟩
theorem toIntS_is (xs : List Int) (hl : xs.length ≤ 1048576) (k : Nat) (hk : xs.length < k) : laws_toIntS.f k xs = some xs:=by
 unfold laws_toIntS.f
 rw [if_pos (by omega),if_pos (by omega)]
 have h:=gen_to (fun k x a i => laws_toIntS.l0 k x a i) id xs 0 (fun k i acc h ha _ => by
   show laws_toIntS.l0 (k + 1) xs acc (i : Int) = _
   rw [laws_toIntS.l0,if_pos (by omega),if_pos (by omega),if_pos (by omega),rdInt xs i h,w64_len h (by omega)];rfl)
  (fun k acc => by show laws_toIntS.l0 (k + 1) xs acc _ = _;rw [laws_toIntS.l0,if_neg (by omega)]) k (List.replicate ((xs.length : Int)).toNat 0) (by omega) (by simp)
 rw [List.map_id] at h
 exact h
theorem eqIntS_self (xs : List Int) (hl : xs.length ≤ 9223372036854775807) (k : Nat) (hk : xs.length < k) : laws_eqIntS.f k xs xs = some true:=by
 unfold laws_eqIntS.f
 rw [if_pos rfl]
 exact gen_eq (fun k x a i => laws_eqIntS.l0 k x a i) xs 0 (fun k i h _ => by
   show laws_eqIntS.l0 (k + 1) xs xs (i : Int) = _
   rw [laws_eqIntS.l0,if_pos (by omega),if_pos (by omega),if_pos (by omega),if_pos rfl,w64_len h hl])
  (fun k => by show laws_eqIntS.l0 (k + 1) xs xs _ = _;rw [laws_eqIntS.l0,if_neg (by omega)]) k (by omega)
theorem rdTL (xs : List S63) (i : Nat) (h : i < xs.length) : rd_T63 xs (i : Int) = xs[i]:=by simp [rd_T63,List.getD,h]
theorem rdTI (xs : List S47) (i : Nat) (h : i < xs.length) : rd_T47 xs (i : Int) = xs[i]:=by simp [rd_T47,List.getD,h]
def small2 (y : S63) : Prop:=y.f2.length ≤ 1048576 ∧ y.f5.length ≤ 1048576
theorem szTreeNode_is (y : S63) (h2 : y.f2.length ≤ 9223372036854775807) (h5 : y.f5.length ≤ 9223372036854775807) (left : Int) (h0 : 0 ≤ left) (h1 : left ≤ 1048576) :
  laws_szTreeNode.f y.f0 y.f1 y.f2 y.f3 y.f4 y.f5 left = some (-1) ∨ ∃ t,laws_szTreeNode.f y.f0 y.f1 y.f2 y.f3 y.f4 y.f5 left = some t ∧ 0 ≤ t ∧ t ≤ left ∧ small2 y:=by
 unfold laws_szTreeNode.f
 rcases szIntS_is y.f2 h2 left h0 h1 with h | ⟨t,h,t0,t1,l2⟩
 ·rw [h,Option.bind_some,if_pos (by omega)];exact .inl rfl
 ·rw [h,Option.bind_some,if_neg (by omega)]
  rcases szIntS_is y.f5 h5 t t0 (by omega) with h | ⟨u,h,u0,u1,l5⟩
  ·rw [h,Option.bind_some,if_pos (by omega)];exact .inl rfl
  ·rw [h,Option.bind_some,if_neg (by omega)];exact .inr ⟨u,rfl,u0,by omega,l2,l5⟩
def szTreeOk (xs : List S63) : Prop:=xs.length ≤ 1048576 ∧ ∀ y ∈ xs,small2 y
theorem szTree_is (xs : List S63) (hx : ∀ y ∈ xs,ok63 y) (hl : xs.length ≤ 9223372036854775807) (left : Int) (h0 : 0 ≤ left) (h1 : left ≤ 1048576) (k : Nat) (hk : xs.length < k) :
  laws_szTree.f k xs left = some (-1) ∨ ∃ r,laws_szTree.f k xs left = some r ∧ 0 ≤ r ∧ r ≤ left ∧ szTreeOk xs:=by
 unfold laws_szTree.f laws_szTreeNodeS.f
 rw [w64 (n:=left - (xs.length : Int)) (by omega) (by omega)]
 by_cases h2 : left - (xs.length : Int) < 0
 ·rw [if_pos h2,Option.bind_some,if_pos (by omega)];exact .inl rfl
 ·rw [if_neg h2]
  have g:=gen_sz (fun k x a i => laws_szTreeNodeS.l0 k x a i) xs small2 0 (fun k i left h h0 h1 _ => by
    show laws_szTreeNodeS.l0 (k + 1) xs left (i : Int) = _ ∨ ∃ t,_ ∧ _ ∧ _ ∧ laws_szTreeNodeS.l0 (k + 1) xs left (i : Int) = laws_szTreeNodeS.l0 k xs t ((i + 1 : Nat) : Int)
    have ho:=hx xs[i] (List.getElem_mem h)
    have m2 : xs[i].f2.length ≤ 9223372036854775807:=by have:=ho.2.2.1.2;unfold maxLen at this;exact this
    have m5 : xs[i].f5.length ≤ 9223372036854775807:=by have:=ho.2.2.2.2.2.2;unfold maxLen at this;exact this
    rw [laws_szTreeNodeS.l0,if_pos (by omega),if_pos (by omega),rdTL xs i h,w64_len h hl]
    rcases szTreeNode_is xs[i] m2 m5 left h0 h1 with e | ⟨t,e,t0,t1,p⟩
    ·rw [e,Option.bind_some,if_pos (by omega)];exact .inl rfl
    ·rw [e,Option.bind_some,if_neg (by omega)];exact .inr ⟨t,t0,t1,p,rfl⟩)
   (fun k left => by show laws_szTreeNodeS.l0 (k + 1) xs left _ = _;rw [laws_szTreeNodeS.l0,if_neg (by omega)]) k (left - (xs.length : Int)) (by omega) (by omega) (by omega)
  rcases g with g | ⟨r,g,r0,r1,ha⟩
  ·rw [show laws_szTreeNodeS.l0 k xs (left - (xs.length : Int)) 0 = some (-1) from g,Option.bind_some,if_pos (by omega)];exact .inl rfl
  ·rw [show laws_szTreeNodeS.l0 k xs (left - (xs.length : Int)) 0 = some r from g,Option.bind_some,if_neg (by omega)];exact .inr ⟨r,rfl,r0,by omega,by omega,ha⟩
def toTN (x : S63) : S47:=⟨x.f0,x.f1,x.f2,x.f3,x.f4,x.f5⟩
theorem toTree_is (xs : List S63) (hz : szTreeOk xs) (k : Nat) (hk : 1048577 + xs.length < k) : laws_toTree.f k xs = some (xs.map toTN):=by
 obtain ⟨hl,ha⟩:=hz
 unfold laws_toTree.f laws_toTreeNodeS.f
 rw [if_pos (by omega),if_pos (by omega)]
 have h:=gen_to (fun k x a i => laws_toTreeNodeS.l0 k x a i) toTN xs 1048577 (fun k i acc h hacc hk => by
   show laws_toTreeNodeS.l0 (k + 1) xs acc (i : Int) = _
   have p:=ha xs[i] (List.getElem_mem h)
   rw [laws_toTreeNodeS.l0,if_pos (by omega),if_pos (by omega),rdTL xs i h,w64_len h (by omega)]
   unfold laws_toTreeNode.f
   have p1:=p.1
   have p2:=p.2
   rw [toIntS_is _ p1 k (by omega),Option.bind_some,toIntS_is _ p2 k (by omega),Option.bind_some,Option.bind_some,if_pos (by omega)]
   rfl)
  (fun k acc => by show laws_toTreeNodeS.l0 (k + 1) xs acc _ = _;rw [laws_toTreeNodeS.l0,if_neg (by omega)]) k (List.replicate ((xs.length : Int)).toNat z47)
 by_cases hk2 : 1048577 + xs.length < k
 ·rw [show laws_toTreeNodeS.l0 k xs (List.replicate ((xs.length : Int)).toNat z47) 0 = _ from h hk2 (by simp)];rfl
 ·exfalso;omega
def smallI (xs : List S47) : Prop:=xs.length ≤ 1048576 ∧ ∀ y ∈ xs,y.f2.length ≤ 1048576 ∧ y.f5.length ≤ 1048576
theorem smallI_of {xs : List S63} (h : szTreeOk xs) : smallI (xs.map toTN):=by
 refine ⟨by rw [List.length_map];exact h.1,fun y hy => ?_⟩
 obtain ⟨x,hx,rfl⟩:=List.mem_map.1 hy
 exact h.2 x hx
theorem eqTree_self (xs : List S47) (hz : smallI xs) (k : Nat) (hk : 1048577 + xs.length < k) : laws_eqTree.f k xs xs = some true:=by
 unfold laws_eqTree.f laws_eqTreeNodeS.f
 rw [if_pos rfl]
 have h:=gen_eq (fun k x a i => laws_eqTreeNodeS.l0 k x a i) xs 1048577 (fun k i h hk => by
   show laws_eqTreeNodeS.l0 (k + 1) xs xs (i : Int) = _
   have p:=hz.2 xs[i] (List.getElem_mem h)
   have p1:=p.1
   have p2:=p.2
   have hl:=hz.1
   rw [laws_eqTreeNodeS.l0,if_pos (by omega),if_pos (by omega),if_pos (by omega),rdTI xs i h,w64_len h (by omega)]
   unfold laws_eqTreeNode.f
   rw [if_pos rfl,if_pos rfl,eqIntS_self _ (by omega) k (by omega),Option.bind_some,if_pos rfl,if_pos rfl,if_pos rfl,eqIntS_self _ (by omega) k (by omega),Option.bind_some,if_pos rfl,Option.bind_some,if_pos rfl])
  (fun k => by show laws_eqTreeNodeS.l0 (k + 1) xs xs _ = _;rw [laws_eqTreeNodeS.l0,if_neg (by omega)]) k (by omega)
 rw [show laws_eqTreeNodeS.l0 k xs xs 0 = _ from h]
 rfl
theorem Ev.shift {α : Type} {g f : Nat → Option α} {r : α} (c : Nat) (h : ∀ k,g (k + c) = f k) (k : Ev f r) : Ev g r:=by
 obtain ⟨K,k⟩:=k
 refine ⟨K + c,fun n hn => ?_⟩
 obtain ⟨m,rfl⟩ : ∃ m,n = m + c:=⟨n - c,by omega⟩
 rw [h]
 exact k m (by omega)
theorem Ev.from {α : Type} {g : Nat → Option α} {r : α} (B : Nat) (h : ∀ k,B < k → g k = some r) : Ev g r:=⟨B + 1,fun k hk => h k (by omega)⟩
theorem within_is (a b c : Int) : impl_within.f a b c = some (decide (b ≤ a ∧ a ≤ c)):=by
 unfold impl_within.f
 by_cases h : a ≥ b
 ·rw [if_pos h];simp [show b ≤ a from h]
 ·rw [if_neg h];simp [show ¬ b ≤ a from h]
def kidIn (i : Nat) (c : Int) : Bool:=decide (0 ≤ c ∧ c ≤ (i : Int) - 1)
def kidsIn (i : Nat) (ks : List Int) : Bool:=ks.all (kidIn i)
theorem kidsIn_cons (i : Nat) (c : Int) (ks : List Int) : kidsIn i (c :: ks) = (kidIn i c && kidsIn i ks):=by simp [kidsIn]
theorem implKidsAhead_is (ks : List Int) (hl : ks.length ≤ 1048576) (i : Nat) (hi : i ≤ 9223372036854775807) (k : Nat) (hk : ks.length < k) : impl_kidsAhead.f k ks (i : Int) = some (kidsIn i ks):=by
 have go : ∀ (d k j : Nat),ks.length - j ≤ d → d < k → impl_kidsAhead.l0 k (i : Int) ks (ks.length : Int) (j : Int) = some (kidsIn i (ks.drop j)):=by
  intro d
  induction d with
  | zero =>
   intro k j hd hk
   obtain ⟨k,rfl⟩ : ∃ m,k = m + 1:=⟨k - 1,by omega⟩
   rw [impl_kidsAhead.l0,if_neg (by omega),List.drop_eq_nil_of_le (by omega)];rfl
  | succ d ih =>
   intro k j hd hk
   obtain ⟨k,rfl⟩ : ∃ m,k = m + 1:=⟨k - 1,by omega⟩
   by_cases hj : j < ks.length
   ·rw [impl_kidsAhead.l0,if_pos (by omega),if_pos (by omega),if_pos (by omega),rdInt ks j hj,within_is,Option.bind_some,w64 (n:=(i : Int) - 1) (by omega) (by omega),w64_len hj (by omega),ih k (j + 1) (by omega) (by omega),drop_get ks j hj,kidsIn_cons]
    rw [show decide (0 ≤ ks[j] ∧ ks[j] ≤ (i : Int) - 1) = kidIn i ks[j] from rfl]
    by_cases hc : kidIn i ks[j] = true
    ·rw [if_pos hc,hc,Bool.true_and]
    ·rw [if_neg hc,show kidIn i ks[j] = false from by simpa using hc,Bool.false_and]
   ·rw [impl_kidsAhead.l0,if_neg (by omega),List.drop_eq_nil_of_le (by omega)];rfl
 unfold impl_kidsAhead.f
 exact go ks.length k 0 (by omega) hk
def nodesIn : Nat → List S47 → Bool
 | _,[] => true
 | i,y :: l => kidsIn i y.f5 && nodesIn (i + 1) l
theorem implKidsRight_is (xs : List S47) (hz : smallI xs) (k : Nat) (hk : xs.length + 1048577 < k) : impl_kidsRight.f k xs = some (nodesIn 0 xs):=by
 have hl:=hz.1
 have go : ∀ (d k i : Nat),xs.length - i ≤ d → d + 1048577 < k → impl_kidsRight.l0 k xs (xs.length : Int) (i : Int) = some (nodesIn i (xs.drop i)):=by
  intro d
  induction d with
  | zero =>
   intro k i hd hk
   obtain ⟨k,rfl⟩ : ∃ m,k = m + 1:=⟨k - 1,by omega⟩
   rw [impl_kidsRight.l0,if_neg (by omega),List.drop_eq_nil_of_le (by omega)];rfl
  | succ d ih =>
   intro k i hd hk
   obtain ⟨k,rfl⟩ : ∃ m,k = m + 1:=⟨k - 1,by omega⟩
   by_cases hi : i < xs.length
   ·have h5:=(hz.2 _ (List.getElem_mem hi)).2
    rw [impl_kidsRight.l0,if_pos (by omega),if_pos (by omega),if_pos (by omega),rdTI xs i hi,implKidsAhead_is _ h5 i (by omega) k (by omega),Option.bind_some,w64_len hi (by omega),ih k (i + 1) (by omega) (by omega),drop_get xs i hi]
    show _ = some (kidsIn i xs[i].f5 && nodesIn (i + 1) (xs.drop (i + 1)))
    by_cases hc : kidsIn i xs[i].f5 = true
    ·rw [if_pos hc,hc,Bool.true_and]
    ·rw [if_neg hc,show kidsIn i xs[i].f5 = false from by simpa using hc,Bool.false_and]
   ·rw [impl_kidsRight.l0,if_neg (by omega),List.drop_eq_nil_of_le (by omega)];rfl
 unfold impl_kidsRight.f
 exact go xs.length k 0 (by omega) (by omega)
theorem rdEL (xs : List S130) (i : Nat) (h : i < xs.length) : rd_T130 xs (i : Int) = xs[i]:=by simp [rd_T130,List.getD,h]
theorem rdEI (xs : List S131) (i : Nat) (h : i < xs.length) : rd_T131 xs (i : Int) = xs[i]:=by simp [rd_T131,List.getD,h]
def smallE (y : S130) : Prop:=y.f2.size ≤ 1048576 ∧ y.f3.length ≤ 1048576
theorem szExNode_is (y : S130) (h2 : y.f2.size ≤ 9223372036854775807) (h3 : y.f3.length ≤ 9223372036854775807) (left : Int) (h0 : 0 ≤ left) (h1 : left ≤ 1048576) :
  laws_szExNode.f y.f0 y.f1 y.f2 y.f3 left = some (-1) ∨ ∃ t,laws_szExNode.f y.f0 y.f1 y.f2 y.f3 left = some t ∧ 0 ≤ t ∧ t ≤ left ∧ smallE y:=by
 unfold laws_szExNode.f
 rw [w64 (n:=left - (y.f2.size : Int)) (by omega) (by omega)]
 by_cases h : left - (y.f2.size : Int) < 0
 ·rw [if_pos h];exact .inl rfl
 ·rw [if_neg h]
  rcases szIntS_is y.f3 h3 (left - (y.f2.size : Int)) (by omega) (by omega) with e | ⟨t,e,t0,t1,l3⟩
  ·rw [e,Option.bind_some,if_pos (by omega)];exact .inl rfl
  ·rw [e,Option.bind_some,if_neg (by omega)];exact .inr ⟨t,rfl,t0,by omega,by unfold smallE;omega⟩
def szExprOk (xs : List S130) : Prop:=xs.length ≤ 1048576 ∧ ∀ y ∈ xs,smallE y
theorem szExpr_is (xs : List S130) (hx : ∀ y ∈ xs,ok130 y) (hl : xs.length ≤ 9223372036854775807) (left : Int) (h0 : 0 ≤ left) (h1 : left ≤ 1048576) (k : Nat) (hk : xs.length < k) :
  laws_szExpr.f k xs left = some (-1) ∨ ∃ r,laws_szExpr.f k xs left = some r ∧ 0 ≤ r ∧ r ≤ left ∧ szExprOk xs:=by
 unfold laws_szExpr.f laws_szExNodeS.f
 rw [w64 (n:=left - (xs.length : Int)) (by omega) (by omega)]
 by_cases h2 : left - (xs.length : Int) < 0
 ·rw [if_pos h2,Option.bind_some,if_pos (by omega)];exact .inl rfl
 ·rw [if_neg h2]
  have g:=gen_sz (fun k x a i => laws_szExNodeS.l0 k x a i) xs smallE 0 (fun k i left h h0 h1 _ => by
    show laws_szExNodeS.l0 (k + 1) xs left (i : Int) = _ ∨ ∃ t,_ ∧ _ ∧ _ ∧ laws_szExNodeS.l0 (k + 1) xs left (i : Int) = laws_szExNodeS.l0 k xs t ((i + 1 : Nat) : Int)
    have ho:=hx xs[i] (List.getElem_mem h)
    have m2 : xs[i].f2.size ≤ 9223372036854775807:=by have:=ho.2.2.1;unfold maxLen at this;exact this
    have m3 : xs[i].f3.length ≤ 9223372036854775807:=by have:=ho.2.2.2.2;unfold maxLen at this;exact this
    rw [laws_szExNodeS.l0,if_pos (by omega),if_pos (by omega),rdEL xs i h,w64_len h hl]
    rcases szExNode_is xs[i] m2 m3 left h0 h1 with e | ⟨t,e,t0,t1,p⟩
    ·rw [e,Option.bind_some,if_pos (by omega)];exact .inl rfl
    ·rw [e,Option.bind_some,if_neg (by omega)];exact .inr ⟨t,t0,t1,p,rfl⟩)
   (fun k left => by show laws_szExNodeS.l0 (k + 1) xs left _ = _;rw [laws_szExNodeS.l0,if_neg (by omega)]) k (left - (xs.length : Int)) (by omega) (by omega) (by omega)
  rcases g with g | ⟨r,g,r0,r1,ha⟩
  ·rw [show laws_szExNodeS.l0 k xs (left - (xs.length : Int)) 0 = some (-1) from g,Option.bind_some,if_pos (by omega)];exact .inl rfl
  ·rw [show laws_szExNodeS.l0 k xs (left - (xs.length : Int)) 0 = some r from g,Option.bind_some,if_neg (by omega)];exact .inr ⟨r,rfl,r0,by omega,by omega,ha⟩
def toEN (x : S130) : S131:=⟨x.f0,x.f1,x.f2,x.f3⟩
theorem toExpr_is (xs : List S130) (hz : szExprOk xs) (k : Nat) (hk : 1048577 + xs.length < k) : laws_toExpr.f k xs = some (xs.map toEN):=by
 obtain ⟨hl,ha⟩:=hz
 unfold laws_toExpr.f laws_toExNodeS.f
 rw [if_pos (by omega),if_pos (by omega)]
 have h:=gen_to (fun k x a i => laws_toExNodeS.l0 k x a i) toEN xs 1048577 (fun k i acc h hacc hk => by
   show laws_toExNodeS.l0 (k + 1) xs acc (i : Int) = _
   have p:=(ha xs[i] (List.getElem_mem h)).2
   rw [laws_toExNodeS.l0,if_pos (by omega),if_pos (by omega),rdEL xs i h,w64_len h (by omega)]
   unfold laws_toExNode.f
   rw [toIntS_is _ p k (by omega),Option.bind_some,Option.bind_some,if_pos (by omega)]
   rfl)
  (fun k acc => by show laws_toExNodeS.l0 (k + 1) xs acc _ = _;rw [laws_toExNodeS.l0,if_neg (by omega)]) k (List.replicate ((xs.length : Int)).toNat z131) hk (by simp)
 rw [show laws_toExNodeS.l0 k xs (List.replicate ((xs.length : Int)).toNat z131) 0 = _ from h];rfl
def smallEI (xs : List S131) : Prop:=xs.length ≤ 1048576 ∧ ∀ y ∈ xs,y.f2.size ≤ 1048576 ∧ y.f3.length ≤ 1048576
theorem smallEI_of {xs : List S130} (h : szExprOk xs) : smallEI (xs.map toEN):=by
 refine ⟨by rw [List.length_map];exact h.1,fun y hy => ?_⟩
 obtain ⟨x,hx,rfl⟩:=List.mem_map.1 hy
 exact h.2 x hx
theorem eqExpr_self (xs : List S131) (hz : smallEI xs) (k : Nat) (hk : 1048577 + xs.length < k) : laws_eqExpr.f k xs xs = some true:=by
 unfold laws_eqExpr.f laws_eqExNodeS.f
 rw [if_pos rfl]
 have h:=gen_eq (fun k x a i => laws_eqExNodeS.l0 k x a i) xs 1048577 (fun k i h hk => by
   show laws_eqExNodeS.l0 (k + 1) xs xs (i : Int) = _
   have p:=(hz.2 xs[i] (List.getElem_mem h)).2
   have hl:=hz.1
   rw [laws_eqExNodeS.l0,if_pos (by omega),if_pos (by omega),if_pos (by omega),rdEI xs i h,w64_len h (by omega)]
   unfold laws_eqExNode.f
   rw [if_pos (show xs[i].f0 = xs[i].f0 from rfl),if_pos (show xs[i].f1 = xs[i].f1 from rfl),if_pos (show xs[i].f2.toList = xs[i].f2.toList from rfl),eqIntS_self _ (by omega) k (by omega),Option.bind_some,if_pos (show true = true from rfl),Option.bind_some,if_pos (show true = true from rfl)])
  (fun k => by show laws_eqExNodeS.l0 (k + 1) xs xs _ = _;rw [laws_eqExNodeS.l0,if_neg (by omega)]) k (by omega)
 rw [show laws_eqExNodeS.l0 k xs xs 0 = _ from h]
 rfl
theorem rdStr (xs : List ByteArray) (i : Nat) (h : i < xs.length) : rdOf ByteArray.empty xs (i : Int) = xs[i]:=by simp [rdOf,List.getD,h]
theorem mxl {n : Nat} (h : n ≤ maxLen) : n ≤ 9223372036854775807:=by unfold maxLen at h;exact h
theorem szStringS_is (xs : List ByteArray) (hx : ∀ y ∈ xs,y.size ≤ maxLen) (hl : xs.length ≤ maxLen) (left : Int) (h0 : 0 ≤ left) (h1 : left ≤ 1048576) (k : Nat) (hk : 2000000 < k) :
  laws_szStringS.f k xs left = some (-1) ∨ ∃ t,laws_szStringS.f k xs left = some t ∧ 0 ≤ t ∧ t ≤ left ∧ xs.length ≤ 1048576:=by
 have hl:=mxl hl
 unfold laws_szStringS.f
 rw [w64 (n:=left - (xs.length : Int)) (by omega) (by omega)]
 by_cases h2 : left - (xs.length : Int) < 0
 ·rw [if_pos h2];exact .inl rfl
 ·rw [if_neg h2]
  have g:=gen_sz (fun k x a i => laws_szStringS.l0 k x a i) xs (fun _ => True) 0 (fun k i left h h0 h1 _ => by
    show laws_szStringS.l0 (k + 1) xs left (i : Int) = _ ∨ ∃ t,_ ∧ _ ∧ _ ∧ laws_szStringS.l0 (k + 1) xs left (i : Int) = laws_szStringS.l0 k xs t ((i + 1 : Nat) : Int)
    have m2:=mxl (hx xs[i] (List.getElem_mem h))
    rw [laws_szStringS.l0,if_pos (by omega),if_pos (by omega),rdStr xs i h,w64_len h hl,w64 (n:=left - (xs[i].size : Int)) (by omega) (by omega)]
    by_cases c : left - (xs[i].size : Int) < 0
    ·rw [if_pos c];exact .inl rfl
    ·rw [if_neg c];exact .inr ⟨_,by omega,by omega,trivial,rfl⟩)
   (fun k left => by show laws_szStringS.l0 (k + 1) xs left _ = _;rw [laws_szStringS.l0,if_neg (by omega)]) k (left - (xs.length : Int)) (by omega) (by omega) (by omega)
  rcases g with g | ⟨r,g,r0,r1,_⟩
  ·exact .inl g
  ·exact .inr ⟨r,g,r0,by omega,by omega⟩
theorem toStringS_is (xs : List ByteArray) (hl : xs.length ≤ 1048576) (k : Nat) (hk : 2000000 < k) : laws_toStringS.f k xs = some xs:=by
 unfold laws_toStringS.f
 rw [if_pos (by omega),if_pos (by omega)]
 have h:=gen_to (fun k x a i => laws_toStringS.l0 k x a i) id xs 0 (fun k i acc h ha _ => by
   show laws_toStringS.l0 (k + 1) xs acc (i : Int) = _
   rw [laws_toStringS.l0,if_pos (by omega),if_pos (by omega),if_pos (by omega),rdStr xs i h,w64_len h (by omega)];rfl)
  (fun k acc => by show laws_toStringS.l0 (k + 1) xs acc _ = _;rw [laws_toStringS.l0,if_neg (by omega)]) k (List.replicate ((xs.length : Int)).toNat (⟨#[]⟩ : ByteArray)) (by omega) (by simp)
 rw [List.map_id] at h
 exact h
theorem eqStringS_self (xs : List ByteArray) (hl : xs.length ≤ 1048576) (k : Nat) (hk : 2000000 < k) : laws_eqStringS.f k xs xs = some true:=by
 unfold laws_eqStringS.f
 rw [if_pos rfl]
 exact gen_eq (fun k x a i => laws_eqStringS.l0 k x a i) xs 0 (fun k i h _ => by
   show laws_eqStringS.l0 (k + 1) xs xs (i : Int) = _
   rw [laws_eqStringS.l0,if_pos (by omega),if_pos (by omega),if_pos (by omega),if_pos rfl,w64_len h (by omega)])
  (fun k => by show laws_eqStringS.l0 (k + 1) xs xs _ = _;rw [laws_eqStringS.l0,if_neg (by omega)]) k (by omega)
theorem rdSE (xs : List S119) (i : Nat) (h : i < xs.length) : rd_T119 xs (i : Int) = xs[i]:=by simp [rd_T119,List.getD,h]
theorem rdSS (xs : List S107) (i : Nat) (h : i < xs.length) : rd_T107 xs (i : Int) = xs[i]:=by simp [rd_T107,List.getD,h]
theorem rdSA (xs : List S92) (i : Nat) (h : i < xs.length) : rd_T92 xs (i : Int) = xs[i]:=by simp [rd_T92,List.getD,h]
theorem rdSR (xs : List S61) (i : Nat) (h : i < xs.length) : rd_T61 xs (i : Int) = xs[i]:=by simp [rd_T61,List.getD,h]
theorem rdIE (xs : List S122) (i : Nat) (h : i < xs.length) : rd_T122 xs (i : Int) = xs[i]:=by simp [rd_T122,List.getD,h]
theorem rdIS (xs : List S110) (i : Nat) (h : i < xs.length) : rd_T110 xs (i : Int) = xs[i]:=by simp [rd_T110,List.getD,h]
theorem rdIA (xs : List S95) (i : Nat) (h : i < xs.length) : rd_T95 xs (i : Int) = xs[i]:=by simp [rd_T95,List.getD,h]
theorem rdIR (xs : List S51) (i : Nat) (h : i < xs.length) : rd_T51 xs (i : Int) = xs[i]:=by simp [rd_T51,List.getD,h]
theorem szExpr_k (xs : List S130) (hx : ∀ y ∈ xs,ok130 y) (hl : xs.length ≤ maxLen) (left : Int) (h0 : 0 ≤ left) (h1 : left ≤ 1048576) (k : Nat) (hk : 2000000 < k) :
  laws_szExpr.f k xs left = some (-1) ∨ ∃ r,laws_szExpr.f k xs left = some r ∧ 0 ≤ r ∧ r ≤ left ∧ szExprOk xs:=by
 have hl:=mxl hl
 by_cases c : xs.length ≤ 1048576
 ·exact szExpr_is xs hx hl left h0 h1 k (by omega)
 ·refine .inl ?_
  unfold laws_szExpr.f laws_szExNodeS.f
  rw [w64 (n:=left - (xs.length : Int)) (by omega) (by omega),if_pos (by omega),Option.bind_some,if_pos (by omega)]
theorem szExprS_is (xs : List S119) (hx : ∀ y ∈ xs,ok119 y) (hl : xs.length ≤ maxLen) (left : Int) (h0 : 0 ≤ left) (h1 : left ≤ 1048576) (k : Nat) (hk : 4000000 < k) :
  laws_szExprS.f k xs left = some (-1) ∨ ∃ t,laws_szExprS.f k xs left = some t ∧ 0 ≤ t ∧ t ≤ left ∧ xs.length ≤ 1048576 ∧ ∀ y ∈ xs,szExprOk y.f0:=by
 have hl:=mxl hl
 unfold laws_szExprS.f
 rw [w64 (n:=left - (xs.length : Int)) (by omega) (by omega)]
 by_cases h2 : left - (xs.length : Int) < 0
 ·rw [if_pos h2];exact .inl rfl
 ·rw [if_neg h2]
  have g:=gen_sz (fun k x a i => laws_szExprS.l0 k x a i) xs (fun y => szExprOk y.f0) 2000001 (fun k i left h h0 h1 hk => by
    show laws_szExprS.l0 (k + 1) xs left (i : Int) = _ ∨ ∃ t,_ ∧ _ ∧ _ ∧ laws_szExprS.l0 (k + 1) xs left (i : Int) = laws_szExprS.l0 k xs t ((i + 1 : Nat) : Int)
    have m2:=hx xs[i] (List.getElem_mem h)
    rw [laws_szExprS.l0,if_pos (by omega),if_pos (by omega),rdSE xs i h,w64_len h hl]
    rcases szExpr_k xs[i].f0 m2.1 m2.2 left h0 h1 k (by omega) with e | ⟨t,e,t0,t1,p⟩
    ·rw [e,Option.bind_some,if_pos (by omega)];exact .inl rfl
    ·rw [e,Option.bind_some,if_neg (by omega)];exact .inr ⟨t,t0,t1,p,rfl⟩)
   (fun k left => by show laws_szExprS.l0 (k + 1) xs left _ = _;rw [laws_szExprS.l0,if_neg (by omega)]) k (left - (xs.length : Int)) (by omega) (by omega) (by omega)
  rcases g with g | ⟨r,g,r0,r1,ha⟩
  ·exact .inl g
  ·exact .inr ⟨r,g,r0,by omega,by omega,ha⟩
def smallSy (y : S107) : Prop:=y.f2.length ≤ 1048576 ∧ ∀ e ∈ y.f2,szExprOk e.f0
theorem szSym_is (y : S107) (hy : ok107 y) (left : Int) (h0 : 0 ≤ left) (h1 : left ≤ 1048576) (k : Nat) (hk : 4000000 < k) :
  laws_szSym.f k y.f0 y.f1 y.f2 y.f3 left = some (-1) ∨ ∃ t,laws_szSym.f k y.f0 y.f1 y.f2 y.f3 left = some t ∧ 0 ≤ t ∧ t ≤ left ∧ smallSy y:=by
 obtain ⟨_,m1,⟨m2,m3⟩,m4⟩:=hy
 have m1:=mxl m1
 have m4:=mxl m4
 unfold laws_szSym.f
 rw [w64 (n:=left - (y.f1.size : Int)) (by omega) (by omega)]
 by_cases h : left - (y.f1.size : Int) < 0
 ·rw [if_pos h];exact .inl rfl
 ·rw [if_neg h]
  rcases szExprS_is y.f2 m2 m3 (left - (y.f1.size : Int)) (by omega) (by omega) k hk with e | ⟨t,e,t0,t1,p⟩
  ·rw [e,Option.bind_some,if_pos (by omega)];exact .inl rfl
  ·rw [e,Option.bind_some,if_neg (by omega),w64 (n:=t - (y.f3.size : Int)) (by omega) (by omega)]
   by_cases h3 : t - (y.f3.size : Int) < 0
   ·rw [if_pos h3];exact .inl rfl
   ·rw [if_neg h3];exact .inr ⟨_,rfl,by omega,by omega,p⟩
def smallAl (y : S92) : Prop:=y.f0.length ≤ 1048576 ∧ ∀ s ∈ y.f0,smallSy s
theorem szAlt_is (y : S92) (hy : ok92 y) (left : Int) (h0 : 0 ≤ left) (h1 : left ≤ 1048576) (k : Nat) (hk : 6000000 < k) :
  laws_szAlt.f k y.f0 left = some (-1) ∨ ∃ t,laws_szAlt.f k y.f0 left = some t ∧ 0 ≤ t ∧ t ≤ left ∧ smallAl y:=by
 obtain ⟨hx,hl⟩:=hy
 have hl:=mxl hl
 unfold laws_szAlt.f laws_szSymS.f
 rw [w64 (n:=left - (y.f0.length : Int)) (by omega) (by omega)]
 by_cases h2 : left - (y.f0.length : Int) < 0
 ·rw [if_pos h2,Option.bind_some,if_pos (by omega)];exact .inl rfl
 ·rw [if_neg h2]
  obtain ⟨xs⟩:=y
  have hx : ∀ y ∈ xs,ok107 y:=hx
  have hl : xs.length ≤ 9223372036854775807:=hl
  have h2 : ¬ left - (xs.length : Int) < 0:=h2
  have g:=gen_sz (fun k x a i => laws_szSymS.l0 k x a i) xs smallSy 4000001 (fun k i left h h0 h1 hk => by
    show laws_szSymS.l0 (k + 1) xs left (i : Int) = _ ∨ ∃ t,_ ∧ _ ∧ _ ∧ laws_szSymS.l0 (k + 1) xs left (i : Int) = laws_szSymS.l0 k xs t ((i + 1 : Nat) : Int)
    rw [laws_szSymS.l0,if_pos (by omega),if_pos (by omega),rdSS xs i h,w64_len h hl]
    rcases szSym_is xs[i] (hx xs[i] (List.getElem_mem h)) left h0 h1 k (by omega) with e | ⟨t,e,t0,t1,p⟩
    ·rw [e,Option.bind_some,if_pos (by omega)];exact .inl rfl
    ·rw [e,Option.bind_some,if_neg (by omega)];exact .inr ⟨t,t0,t1,p,rfl⟩)
   (fun k left => by show laws_szSymS.l0 (k + 1) xs left _ = _;rw [laws_szSymS.l0,if_neg (by omega)]) k (left - (xs.length : Int)) (by omega) (by omega) (by omega)
  show (laws_szSymS.l0 k xs (left - (xs.length : Int)) 0).bind _ = _ ∨ ∃ t,(laws_szSymS.l0 k xs (left - (xs.length : Int)) 0).bind _ = _ ∧ _
  rcases g with g | ⟨r,g,r0,r1,ha⟩
  ·rw [show laws_szSymS.l0 k xs (left - (xs.length : Int)) 0 = some (-1) from g,Option.bind_some,if_pos (by omega)];exact .inl rfl
  ·rw [show laws_szSymS.l0 k xs (left - (xs.length : Int)) 0 = some r from g,Option.bind_some,if_neg (by omega)];exact .inr ⟨r,rfl,r0,by omega,by show xs.length ≤ 1048576;omega,ha⟩
def smallRu (y : S61) : Prop:=y.f0.size ≤ 1048576 ∧ y.f1.length ≤ 1048576 ∧ y.f2.length ≤ 1048576 ∧ ∀ a ∈ y.f2,smallAl a
theorem szAltS_is (xs : List S92) (hx : ∀ y ∈ xs,ok92 y) (hl : xs.length ≤ maxLen) (left : Int) (h0 : 0 ≤ left) (h1 : left ≤ 1048576) (k : Nat) (hk : 8000000 < k) :
  laws_szAltS.f k xs left = some (-1) ∨ ∃ t,laws_szAltS.f k xs left = some t ∧ 0 ≤ t ∧ t ≤ left ∧ xs.length ≤ 1048576 ∧ ∀ y ∈ xs,smallAl y:=by
 have hl:=mxl hl
 unfold laws_szAltS.f
 rw [w64 (n:=left - (xs.length : Int)) (by omega) (by omega)]
 by_cases h2 : left - (xs.length : Int) < 0
 ·rw [if_pos h2];exact .inl rfl
 ·rw [if_neg h2]
  have g:=gen_sz (fun k x a i => laws_szAltS.l0 k x a i) xs smallAl 6000001 (fun k i left h h0 h1 hk => by
    show laws_szAltS.l0 (k + 1) xs left (i : Int) = _ ∨ ∃ t,_ ∧ _ ∧ _ ∧ laws_szAltS.l0 (k + 1) xs left (i : Int) = laws_szAltS.l0 k xs t ((i + 1 : Nat) : Int)
    rw [laws_szAltS.l0,if_pos (by omega),if_pos (by omega),rdSA xs i h,w64_len h hl]
    rcases szAlt_is xs[i] (hx xs[i] (List.getElem_mem h)) left h0 h1 k (by omega) with e | ⟨t,e,t0,t1,p⟩
    ·rw [e,Option.bind_some,if_pos (by omega)];exact .inl rfl
    ·rw [e,Option.bind_some,if_neg (by omega)];exact .inr ⟨t,t0,t1,p,rfl⟩)
   (fun k left => by show laws_szAltS.l0 (k + 1) xs left _ = _;rw [laws_szAltS.l0,if_neg (by omega)]) k (left - (xs.length : Int)) (by omega) (by omega) (by omega)
  rcases g with g | ⟨r,g,r0,r1,ha⟩
  ·exact .inl g
  ·exact .inr ⟨r,g,r0,by omega,by omega,ha⟩
theorem szRule_is (y : S61) (hy : ok61 y) (left : Int) (h0 : 0 ≤ left) (h1 : left ≤ 1048576) (k : Nat) (hk : 8000000 < k) :
  laws_szRule.f k y.f0 y.f1 y.f2 left = some (-1) ∨ ∃ t,laws_szRule.f k y.f0 y.f1 y.f2 left = some t ∧ 0 ≤ t ∧ t ≤ left ∧ smallRu y:=by
 obtain ⟨m0,⟨m1,m2⟩,⟨m3,m4⟩⟩:=hy
 have m0:=mxl m0
 unfold laws_szRule.f
 rw [w64 (n:=left - (y.f0.size : Int)) (by omega) (by omega)]
 by_cases h : left - (y.f0.size : Int) < 0
 ·rw [if_pos h];exact .inl rfl
 ·rw [if_neg h]
  rcases szStringS_is y.f1 m1 m2 (left - (y.f0.size : Int)) (by omega) (by omega) k (by omega) with e | ⟨t,e,t0,t1,p⟩
  ·rw [e,Option.bind_some,if_pos (by omega)];exact .inl rfl
  ·rw [e,Option.bind_some,if_neg (by omega)]
   rcases szAltS_is y.f2 m3 m4 t t0 (by omega) k hk with e2 | ⟨t2,e2,u0,u1,q⟩
   ·rw [e2,Option.bind_some,if_pos (by omega)];exact .inl rfl
   ·rw [e2,Option.bind_some,if_neg (by omega)];exact .inr ⟨_,rfl,u0,by omega,by omega,p,q⟩
def smallGr (xs : List S61) : Prop:=xs.length ≤ 1048576 ∧ ∀ y ∈ xs,smallRu y
theorem szGrammar_is (xs : List S61) (hx : ∀ y ∈ xs,ok61 y) (hl : xs.length ≤ maxLen) (left : Int) (h0 : 0 ≤ left) (h1 : left ≤ 1048576) (k : Nat) (hk : 10000000 < k) :
  laws_szGrammar.f k xs left = some (-1) ∨ ∃ t,laws_szGrammar.f k xs left = some t ∧ 0 ≤ t ∧ t ≤ left ∧ smallGr xs:=by
 have hl:=mxl hl
 unfold laws_szGrammar.f laws_szRuleS.f
 rw [w64 (n:=left - (xs.length : Int)) (by omega) (by omega)]
 by_cases h2 : left - (xs.length : Int) < 0
 ·rw [if_pos h2,Option.bind_some,if_pos (by omega)];exact .inl rfl
 ·rw [if_neg h2]
  have g:=gen_sz (fun k x a i => laws_szRuleS.l0 k x a i) xs smallRu 8000001 (fun k i left h h0 h1 hk => by
    show laws_szRuleS.l0 (k + 1) xs left (i : Int) = _ ∨ ∃ t,_ ∧ _ ∧ _ ∧ laws_szRuleS.l0 (k + 1) xs left (i : Int) = laws_szRuleS.l0 k xs t ((i + 1 : Nat) : Int)
    rw [laws_szRuleS.l0,if_pos (by omega),if_pos (by omega),rdSR xs i h,w64_len h hl]
    rcases szRule_is xs[i] (hx xs[i] (List.getElem_mem h)) left h0 h1 k (by omega) with e | ⟨t,e,t0,t1,p⟩
    ·rw [e,Option.bind_some,if_pos (by omega)];exact .inl rfl
    ·rw [e,Option.bind_some,if_neg (by omega)];exact .inr ⟨t,t0,t1,p,rfl⟩)
   (fun k left => by show laws_szRuleS.l0 (k + 1) xs left _ = _;rw [laws_szRuleS.l0,if_neg (by omega)]) k (left - (xs.length : Int)) (by omega) (by omega) (by omega)
  rcases g with g | ⟨r,g,r0,r1,ha⟩
  ·rw [show laws_szRuleS.l0 k xs (left - (xs.length : Int)) 0 = some (-1) from g,Option.bind_some,if_pos (by omega)];exact .inl rfl
  ·rw [show laws_szRuleS.l0 k xs (left - (xs.length : Int)) 0 = some r from g,Option.bind_some,if_neg (by omega)];exact .inr ⟨r,rfl,r0,by omega,by omega,ha⟩
def toEx (x : S119) : S122:=⟨x.f0.map toEN⟩
def toSy (x : S107) : S110:=⟨x.f0,x.f1,x.f2.map toEx,x.f3⟩
def toAl (x : S92) : S95:=⟨x.f0.map toSy⟩
def toRu (x : S61) : S51:=⟨x.f0,x.f1,x.f2.map toAl⟩
theorem toExprS_is (xs : List S119) (hl : xs.length ≤ 1048576) (hx : ∀ y ∈ xs,szExprOk y.f0) (k : Nat) (hk : 6000000 < k) : laws_toExprS.f k xs = some (xs.map toEx):=by
 unfold laws_toExprS.f
 rw [if_pos (by omega),if_pos (by omega)]
 have h:=gen_to (fun k x a i => laws_toExprS.l0 k x a i) toEx xs 4000001 (fun k i acc h ha hk => by
   show laws_toExprS.l0 (k + 1) xs acc (i : Int) = _
   have p:=hx xs[i] (List.getElem_mem h)
   have p1:=p.1
   rw [laws_toExprS.l0,if_pos (by omega),if_pos (by omega),rdSE xs i h,toExpr_is _ p k (by omega),Option.bind_some,if_pos (by omega),w64_len h (by omega)];rfl)
  (fun k acc => by show laws_toExprS.l0 (k + 1) xs acc _ = _;rw [laws_toExprS.l0,if_neg (by omega)]) k (List.replicate ((xs.length : Int)).toNat z122) (by omega) (by simp)
 exact h
theorem toSym_is (y : S107) (hy : smallSy y) (k : Nat) (hk : 6000000 < k) : laws_toSym.f k y.f0 y.f1 y.f2 y.f3 = some (y.f0,y.f1,y.f2.map toEx,y.f3):=by
 unfold laws_toSym.f
 rw [toExprS_is y.f2 hy.1 hy.2 k hk,Option.bind_some]
theorem toAlt_is (xs : List S107) (hl : xs.length ≤ 1048576) (hx : ∀ y ∈ xs,smallSy y) (k : Nat) (hk : 8000000 < k) : laws_toAlt.f k xs = some (xs.map toSy):=by
 unfold laws_toAlt.f laws_toSymS.f
 rw [if_pos (by omega),if_pos (by omega)]
 have h:=gen_to (fun k x a i => laws_toSymS.l0 k x a i) toSy xs 6000001 (fun k i acc h ha hk => by
   show laws_toSymS.l0 (k + 1) xs acc (i : Int) = _
   rw [laws_toSymS.l0,if_pos (by omega),if_pos (by omega),rdSS xs i h,toSym_is _ (hx xs[i] (List.getElem_mem h)) k (by omega),Option.bind_some,if_pos (by omega),w64_len h (by omega)];rfl)
  (fun k acc => by show laws_toSymS.l0 (k + 1) xs acc _ = _;rw [laws_toSymS.l0,if_neg (by omega)]) k (List.replicate ((xs.length : Int)).toNat z110) (by omega) (by simp)
 rw [show laws_toSymS.l0 k xs (List.replicate ((xs.length : Int)).toNat z110) 0 = _ from h];rfl
theorem toAltS_is (xs : List S92) (hl : xs.length ≤ 1048576) (hx : ∀ y ∈ xs,smallAl y) (k : Nat) (hk : 10000000 < k) : laws_toAltS.f k xs = some (xs.map toAl):=by
 unfold laws_toAltS.f
 rw [if_pos (by omega),if_pos (by omega)]
 have h:=gen_to (fun k x a i => laws_toAltS.l0 k x a i) toAl xs 8000001 (fun k i acc h ha hk => by
   show laws_toAltS.l0 (k + 1) xs acc (i : Int) = _
   have p:=hx xs[i] (List.getElem_mem h)
   rw [laws_toAltS.l0,if_pos (by omega),if_pos (by omega),rdSA xs i h,toAlt_is _ p.1 p.2 k (by omega),Option.bind_some,if_pos (by omega),w64_len h (by omega)];rfl)
  (fun k acc => by show laws_toAltS.l0 (k + 1) xs acc _ = _;rw [laws_toAltS.l0,if_neg (by omega)]) k (List.replicate ((xs.length : Int)).toNat z95) (by omega) (by simp)
 exact h
theorem toRule_is (y : S61) (hy : smallRu y) (k : Nat) (hk : 10000000 < k) : laws_toRule.f k y.f0 y.f1 y.f2 = some (y.f0,y.f1,y.f2.map toAl):=by
 unfold laws_toRule.f
 rw [toStringS_is y.f1 hy.2.1 k (by omega),Option.bind_some,toAltS_is y.f2 hy.2.2.1 hy.2.2.2 k hk,Option.bind_some]
theorem toGrammar_is (xs : List S61) (hz : smallGr xs) (k : Nat) (hk : 12000000 < k) : laws_toGrammar.f k xs = some (xs.map toRu):=by
 obtain ⟨hl,hx⟩:=hz
 unfold laws_toGrammar.f laws_toRuleS.f
 rw [if_pos (by omega),if_pos (by omega)]
 have h:=gen_to (fun k x a i => laws_toRuleS.l0 k x a i) toRu xs 10000001 (fun k i acc h ha hk => by
   show laws_toRuleS.l0 (k + 1) xs acc (i : Int) = _
   rw [laws_toRuleS.l0,if_pos (by omega),if_pos (by omega),rdSR xs i h,toRule_is _ (hx xs[i] (List.getElem_mem h)) k (by omega),Option.bind_some,if_pos (by omega),w64_len h (by omega)];rfl)
  (fun k acc => by show laws_toRuleS.l0 (k + 1) xs acc _ = _;rw [laws_toRuleS.l0,if_neg (by omega)]) k (List.replicate ((xs.length : Int)).toNat z51) (by omega) (by simp)
 rw [show laws_toRuleS.l0 k xs (List.replicate ((xs.length : Int)).toNat z51) 0 = _ from h];rfl
theorem eqExprS_self (xs : List S119) (hl : xs.length ≤ 1048576) (hx : ∀ y ∈ xs,szExprOk y.f0) (k : Nat) (hk : 6000000 < k) : laws_eqExprS.f k (xs.map toEx) (xs.map toEx) = some true:=by
 unfold laws_eqExprS.f
 rw [if_pos rfl]
 exact gen_eq (fun k x a i => laws_eqExprS.l0 k x a i) (xs.map toEx) 4000001 (fun k i h hk => by
   show laws_eqExprS.l0 (k + 1) _ _ (i : Int) = _
   have h2 : i < xs.length:=by rwa [List.length_map] at h
   have p:=hx xs[i] (List.getElem_mem h2)
   have p1:=p.1
   rw [laws_eqExprS.l0,if_pos (by omega),if_pos (by omega),if_pos (by omega),rdIE _ i h,List.getElem_map,show (toEx xs[i]).f0 = xs[i].f0.map toEN from rfl,eqExpr_self _ (smallEI_of p) k (by rw [List.length_map];omega),Option.bind_some,if_pos rfl,w64_len h (by rw [List.length_map];omega)])
  (fun k => by show laws_eqExprS.l0 (k + 1) _ _ _ = _;rw [laws_eqExprS.l0,if_neg (by omega)]) k (by rw [List.length_map];omega)
theorem eqAlt_self (xs : List S107) (hl : xs.length ≤ 1048576) (hx : ∀ y ∈ xs,smallSy y) (k : Nat) (hk : 8000000 < k) : laws_eqAlt.f k (xs.map toSy) (xs.map toSy) = some true:=by
 unfold laws_eqAlt.f laws_eqSymS.f
 rw [if_pos rfl]
 have h:=gen_eq (fun k x a i => laws_eqSymS.l0 k x a i) (xs.map toSy) 6000001 (fun k i h hk => by
   show laws_eqSymS.l0 (k + 1) _ _ (i : Int) = _
   have h2 : i < xs.length:=by rwa [List.length_map] at h
   have p:=hx xs[i] (List.getElem_mem h2)
   rw [laws_eqSymS.l0,if_pos (by omega),if_pos (by omega),if_pos (by omega),rdIS _ i h,List.getElem_map]
   unfold laws_eqSym.f
   rw [if_pos rfl,if_pos rfl,show (toSy xs[i]).f2 = xs[i].f2.map toEx from rfl,eqExprS_self _ p.1 p.2 k (by omega),Option.bind_some,if_pos rfl,if_pos rfl,Option.bind_some,if_pos rfl,w64_len h (by rw [List.length_map];omega)])
  (fun k => by show laws_eqSymS.l0 (k + 1) _ _ _ = _;rw [laws_eqSymS.l0,if_neg (by omega)]) k (by rw [List.length_map];omega)
 rw [show laws_eqSymS.l0 k (xs.map toSy) (xs.map toSy) 0 = _ from h];rfl
theorem eqAltS_self (xs : List S92) (hl : xs.length ≤ 1048576) (hx : ∀ y ∈ xs,smallAl y) (k : Nat) (hk : 10000000 < k) : laws_eqAltS.f k (xs.map toAl) (xs.map toAl) = some true:=by
 unfold laws_eqAltS.f
 rw [if_pos rfl]
 exact gen_eq (fun k x a i => laws_eqAltS.l0 k x a i) (xs.map toAl) 8000001 (fun k i h hk => by
   show laws_eqAltS.l0 (k + 1) _ _ (i : Int) = _
   have h2 : i < xs.length:=by rwa [List.length_map] at h
   have p:=hx xs[i] (List.getElem_mem h2)
   rw [laws_eqAltS.l0,if_pos (by omega),if_pos (by omega),if_pos (by omega),rdIA _ i h,List.getElem_map,show (toAl xs[i]).f0 = xs[i].f0.map toSy from rfl,eqAlt_self _ p.1 p.2 k (by omega),Option.bind_some,if_pos rfl,w64_len h (by rw [List.length_map];omega)])
  (fun k => by show laws_eqAltS.l0 (k + 1) _ _ _ = _;rw [laws_eqAltS.l0,if_neg (by omega)]) k (by rw [List.length_map];omega)
theorem eqGrammar_self (xs : List S61) (hz : smallGr xs) (k : Nat) (hk : 12000000 < k) : laws_eqGrammar.f k (xs.map toRu) (xs.map toRu) = some true:=by
 obtain ⟨hl,hx⟩:=hz
 unfold laws_eqGrammar.f laws_eqRuleS.f
 rw [if_pos rfl]
 have h:=gen_eq (fun k x a i => laws_eqRuleS.l0 k x a i) (xs.map toRu) 10000001 (fun k i h hk => by
   show laws_eqRuleS.l0 (k + 1) _ _ (i : Int) = _
   have h2 : i < xs.length:=by rwa [List.length_map] at h
   have p:=hx xs[i] (List.getElem_mem h2)
   rw [laws_eqRuleS.l0,if_pos (by omega),if_pos (by omega),if_pos (by omega),rdIR _ i h,List.getElem_map]
   unfold laws_eqRule.f
   rw [if_pos rfl,show (toRu xs[i]).f1 = xs[i].f1 from rfl,eqStringS_self _ p.2.1 k (by omega),Option.bind_some,if_pos rfl,show (toRu xs[i]).f2 = xs[i].f2.map toAl from rfl,eqAltS_self _ p.2.2.1 p.2.2.2 k (by omega),Option.bind_some,if_pos rfl,Option.bind_some,if_pos rfl,
    w64_len h (by rw [List.length_map];omega)])
  (fun k => by show laws_eqRuleS.l0 (k + 1) _ _ _ = _;rw [laws_eqRuleS.l0,if_neg (by omega)]) k (by rw [List.length_map];omega)
 rw [show laws_eqRuleS.l0 k (xs.map toRu) (xs.map toRu) 0 = _ from h];rfl
def mkB (l : List UInt8) : ByteArray:=⟨l.toArray⟩
theorem data_mk (l : List UInt8) : (mkB l).data.toList = l:=by simp [mkB]
theorem ba_ext {x y : ByteArray} (h : x.data.toList = y.data.toList) : x = y:=by
 cases x;cases y
 simp only [ByteArray.mk.injEq]
 exact Array.toList_inj.1 h
theorem mk_data (s : ByteArray) : mkB s.data.toList = s:=ba_ext (data_mk _)
theorem mk_append (a b : List UInt8) : mkB a ++ mkB b = mkB (a ++ b):=by
 refine ba_ext ?_
 rw [data_mk,ByteArray.data_append,Array.toList_append,data_mk,data_mk]
theorem mk_size (l : List UInt8) : (mkB l).size = l.length:=by
 have h : (mkB l).data.toList.length = l.length:=by rw [data_mk]
 exact h
theorem l01In_is (a b c : Int) : spec_l01In.f a b c = some (decide (b ≤ a ∧ a ≤ c)):=by
 unfold spec_l01In.f
 by_cases h : a ≥ b
 ·rw [if_pos h];simp [show b ≤ a from h]
 ·rw [if_neg h];simp [show ¬ b ≤ a from h]
def pick (ts : List ByteArray) (c : Int) : List UInt8:=(rdOf ByteArray.empty ts c).data.toList
def nm (g : List S51) (c : Int) : List UInt8:=(rd_T51 g c).f0.data.toList
def spL (ts : List ByteArray) (ks : List Int) : List UInt8:=ks.flatMap fun c => 32 :: pick ts c
def joinedL (ts : List ByteArray) : List Int → List UInt8
 | [] => []
 | c :: r => pick ts c ++ spL ts r
def total (ts : List ByteArray) (ks : List Int) : Nat:=(ks.map fun c => (pick ts c).length).sum
def ruleIn (g : List S51) (c : Int) : Bool:=decide (0 ≤ c ∧ c ≤ (g.length : Int) - 1)
def lineL (g : List S51) (ts : List ByteArray) (x : S47) : List UInt8:=nm g x.f0 ++ (40 :: (joinedL ts x.f5 ++ [41]))
def lastT (ts : List ByteArray) : ByteArray:=if ts.length = 0 then ⟨#[]⟩ else rdOf ByteArray.empty ts ((ts.length : Int) - 1)
def treeGo (g : List S51) (ts : List ByteArray) : List S47 → ByteArray
 | [] => lastT ts
 | x :: l => if ruleIn g x.f0 = true then if kidsIn ts.length x.f5 = true then if (lineL g ts x).length > 2000 then ⟨#[]⟩ else treeGo g (ts ++ [mkB (lineL g ts x)]) l else ⟨#[]⟩ else ⟨#[]⟩
def lowT (ts : List ByteArray) : Prop:=∀ t ∈ ts,t.size ≤ 2000
def smallG (g : List S51) : Prop:=g.length ≤ 1048576 ∧ ∀ y ∈ g,y.f0.size ≤ 1048576
theorem pick_len {ts : List ByteArray} (h : lowT ts) {c : Int} (h0 : 0 ≤ c) (h1 : c < ts.length) : (pick ts c).length ≤ 2000:=by
 obtain ⟨n,rfl⟩:=Int.eq_ofNat_of_zero_le h0
 unfold pick
 rw [rdStr ts n (by omega)]
 exact h _ (List.getElem_mem _)
theorem nm_len {g : List S51} (h : smallG g) {c : Int} (h0 : 0 ≤ c) (h1 : c < g.length) : (nm g c).length ≤ 1048576:=by
 obtain ⟨n,rfl⟩:=Int.eq_ofNat_of_zero_le h0
 unfold nm
 rw [rdIR g n (by omega)]
 exact h.2 _ (List.getElem_mem _)
theorem lowT_snoc {ts : List ByteArray} (h : lowT ts) {l : List UInt8} (hl : ¬ l.length > 2000) : lowT (ts ++ [mkB l]):=by
 intro t ht
 rw [List.mem_append,List.mem_singleton] at ht
 rcases ht with ht | rfl
 ·exact h t ht
 ·rw [mk_size];omega
theorem treeGo_no (g : List S51) (l : List S47) : ∀ ts : List ByteArray,nodesIn ts.length l = false → treeGo g ts l = ⟨#[]⟩:=by
 induction l with
 | nil => intro ts h;simp [nodesIn] at h
 | cons y l ih =>
  intro ts h
  rw [treeGo]
  split
  ·by_cases hk : kidsIn ts.length y.f5 = true
   ·rw [if_pos hk]
    split
    ·rfl
    ·refine ih _ ?_
     simp only [nodesIn,hk,Bool.true_and] at h
     rw [List.length_append,List.length_singleton]
     exact h
   ·rw [if_neg hk]
  ·rfl
theorem spL_length (ts : List ByteArray) (ks : List Int) : (spL ts ks).length = total ts ks + ks.length:=by
 induction ks with
 | nil => rfl
 | cons c ks ih =>
  have e : spL ts (c :: ks) = (32 :: pick ts c) ++ spL ts ks:=by simp [spL]
  have e2 : total ts (c :: ks) = (pick ts c).length + total ts ks:=by simp [total]
  rw [e,e2,List.length_append,ih]
  simp only [List.length_cons];omega
theorem joinedL_length (ts : List ByteArray) (ks : List Int) : (joinedL ts ks).length = total ts ks + (ks.length - 1):=by
 cases ks with
 | nil => rfl
 | cons c ks =>
  have e2 : total ts (c :: ks) = (pick ts c).length + total ts ks:=by simp [total]
  rw [joinedL,List.length_append,spL_length,e2]
  simp only [List.length_cons];omega
theorem joined_is (ts : List ByteArray) (ks : List Int) : Go.Lib.join ((ks.map fun c => rdOf ByteArray.empty ts c).map (·.data.toList)) [32] = joinedL ts ks:=by
 cases ks with
 | nil => rfl
 | cons c ks =>
  rw [List.map_cons,List.map_cons,Go.Lib.join_cons]
  simp only [joinedL,Go.Lib.joinTail,spL,pick,List.flatMap,List.map_map]
  rfl
def tailL (ts : List ByteArray) (j : Nat) (ks : List Int) : List UInt8:=if j = 0 then joinedL ts ks else spL ts ks
theorem specTree_l1 (g : List S51) (xs : List S47) (hl : xs.length ≤ 1048576) (ts : List ByteArray) (hh : lowT ts) (hi : ts.length < xs.length) (ks : List Int) (h5 : ks.length ≤ 1048576) (y0 y1 : Int) (y2 : List Int) (y3 y4 : Int) (r : Nat) :
  ∀ (k j : Nat) (acc : List UInt8),ks.length - j = r → j ≤ ks.length → acc.length ≤ 1048577 + 2001 * j →
  spec_TreeText.l1 (k + r + 1) ts (ts.length : Int) (mkB acc) (j : Int) g xs y0 y1 y2 y3 y4 ks = if kidsIn ts.length (ks.drop j) = true then (if (acc ++ (tailL ts j (ks.drop j) ++ [41])).length > 2000 then some ⟨#[]⟩ else spec_TreeText.l0 k (ts ++ [mkB (acc ++ (tailL ts j (ks.drop j) ++ [41]))]) ((ts.length + 1 : Nat) : Int) g xs) else some ⟨#[]⟩:=by
 induction r with
 | zero =>
  intro k j acc hr hj ha
  have ht : tailL ts j [] = []:=by unfold tailL;split <;> rfl
  have e41 : mkB acc ++ (⟨#[41]⟩ : ByteArray) = mkB (acc ++ [41]):=mk_append acc [41]
  have e : ((mkB (acc ++ [41])).size : Int) = ((acc ++ [41]).length : Int):=by rw [mk_size]
  rw [Nat.add_zero,spec_TreeText.l1,if_neg (by omega),List.drop_eq_nil_of_le (by omega),if_pos (show kidsIn ts.length [] = true from rfl),ht,List.nil_append,if_pos (by rw [mk_size];omega),e41,e]
  by_cases c : (acc ++ [41]).length > 2000
  ·rw [if_pos (by omega),if_pos c]
  ·rw [if_neg (by omega),if_neg c,if_pos (by omega),w64_len hi (by omega)]
 | succ r ih =>
  intro k j acc hr hj ha
  have hj2 : j < ks.length:=by omega
  have hw : wrap64 ((ts.length : Int) - 1) = (ts.length : Int) - 1:=w64 (by omega) (by omega)
  rw [show k + (r + 1) + 1 = (k + r + 1) + 1 from by omega,spec_TreeText.l1,if_pos (by omega),if_pos (by omega),rdInt ks j hj2,hw,l01In_is,Option.bind_some,drop_get ks j hj2,kidsIn_cons]
  by_cases hc : 0 ≤ ks[j] ∧ ks[j] ≤ (ts.length : Int) - 1
  ·have hp:=pick_len hh hc.1 (by omega)
   have hkb : kidIn ts.length ks[j] = true:=decide_eq_true hc
   have hpk : rdOf ByteArray.empty ts ks[j] = mkB (pick ts ks[j]):=(mk_data _).symm
   have hps : (rdOf ByteArray.empty ts ks[j]).size = (pick ts ks[j]).length:=rfl
   rw [decide_eq_true hc,if_pos rfl,hkb,Bool.true_and,w64_len hj2 (by omega)]
   by_cases h0 : j = 0
   ·subst h0
    have e1 : mkB acc ++ rdOf ByteArray.empty ts ks[0] = mkB (acc ++ pick ts ks[0]):=by rw [hpk,mk_append]
    have et : tailL ts 0 (ks[0] :: ks.drop (0 + 1)) = pick ts ks[0] ++ tailL ts 1 (ks.drop (0 + 1)):=rfl
    rw [if_neg (by omega),if_pos hc.1,if_pos (by omega),if_pos (by rw [mk_size,hps];omega),e1,ih k (0 + 1) _ (by omega) (by omega) (by rw [List.length_append];omega),et]
    simp only [List.append_assoc,Nat.zero_add]
   ·have e1 : mkB acc ++ (⟨#[32]⟩ : ByteArray) = mkB (acc ++ [32]):=mk_append acc [32]
    have e2 : mkB (acc ++ [32]) ++ rdOf ByteArray.empty ts ks[j] = mkB (acc ++ [32] ++ pick ts ks[j]):=by rw [hpk,mk_append]
    have et : tailL ts j (ks[j] :: ks.drop (j + 1)) = (32 :: pick ts ks[j]) ++ tailL ts (j + 1) (ks.drop (j + 1)):=by
     unfold tailL
     rw [if_neg h0,if_neg (by omega)]
     unfold spL
     rw [List.flatMap_cons]
    rw [if_pos (by omega),if_pos (by rw [mk_size];omega),if_pos hc.1,if_pos (by omega),e1,if_pos (by rw [mk_size,hps,List.length_append,List.length_singleton];omega),e2,ih k (j + 1) _ (by omega) (by omega) (by rw [List.length_append,List.length_append,List.length_singleton];omega),et]
    simp only [List.append_assoc,List.cons_append,List.nil_append]
  ·have hkb : kidIn ts.length ks[j] = false:=decide_eq_false hc
   rw [decide_eq_false hc,if_neg (by simp),hkb,Bool.false_and,if_neg (show ¬ (false = true) from by simp)]
theorem specTree_l0 (g : List S51) (hg : smallG g) (xs : List S47) (hz : smallI xs) (d : Nat) : ∀ (ts : List ByteArray),lowT ts → xs.length - ts.length = d → ts.length ≤ xs.length →
  Ev (fun k => spec_TreeText.l0 k ts (ts.length : Int) g xs) (treeGo g ts (xs.drop ts.length)):=by
 have hl:=hz.1
 induction d with
 | zero =>
  intro ts hh hd hle
  rw [List.drop_eq_nil_of_le (show xs.length ≤ ts.length by omega)]
  refine Ev.shift 1 (f:=fun _ => some (lastT ts)) (fun k => ?_) (Ev.now _)
  rw [spec_TreeText.l0,if_neg (by omega)]
  unfold lastT
  by_cases h0 : ts.length = 0
  ·rw [if_pos (by omega),if_pos h0]
  ·rw [if_neg (by omega),if_neg h0,w64 (by omega) (by omega),if_pos (by omega),if_pos (by omega)]
 | succ d ih =>
  intro ts hh hd hle
  have hi : ts.length < xs.length:=by omega
  have h5:=(hz.2 _ (List.getElem_mem hi)).2
  have hw : wrap64 ((g.length : Int) - 1) = (g.length : Int) - 1:=w64 (by have:=hg.1;omega) (by have:=hg.1;omega)
  rw [drop_get xs _ hi,treeGo]
  by_cases hr : 0 ≤ (xs[ts.length]'hi).f0 ∧ (xs[ts.length]'hi).f0 ≤ (g.length : Int) - 1
  ·have hn:=nm_len hg hr.1 (by omega)
   have e40 : (rd_T51 g (xs[ts.length]'hi).f0).f0 ++ (⟨#[40]⟩ : ByteArray) = mkB (nm g (xs[ts.length]'hi).f0 ++ [40]):=by
    have h1 : (rd_T51 g (xs[ts.length]'hi).f0).f0 = mkB (nm g (xs[ts.length]'hi).f0):=(mk_data _).symm
    rw [h1]
    exact mk_append _ [40]
   have hns : (rd_T51 g (xs[ts.length]'hi).f0).f0.size = (nm g (xs[ts.length]'hi).f0).length:=rfl
   have e2 : ∀ k,spec_TreeText.l0 (k + ((xs[ts.length]'hi).f5.length + 2)) ts (ts.length : Int) g xs = if kidsIn ts.length (xs[ts.length]'hi).f5 = true then (if (lineL g ts (xs[ts.length]'hi)).length > 2000 then some ⟨#[]⟩ else spec_TreeText.l0 k (ts ++ [mkB (lineL g ts (xs[ts.length]'hi))]) ((ts.length + 1 : Nat) : Int) g xs) else some ⟨#[]⟩:=by
    intro k
    have e:=specTree_l1 g xs hl ts hh hi (xs[ts.length]'hi).f5 h5 (xs[ts.length]'hi).f0 (xs[ts.length]'hi).f1 (xs[ts.length]'hi).f2 (xs[ts.length]'hi).f3 (xs[ts.length]'hi).f4 (xs[ts.length]'hi).f5.length k 0 (nm g (xs[ts.length]'hi).f0 ++ [40]) (by omega) (by omega) (by rw [List.length_append,List.length_singleton];omega)
    have et : nm g (xs[ts.length]'hi).f0 ++ [40] ++ (tailL ts 0 (xs[ts.length]'hi).f5 ++ [41]) = lineL g ts (xs[ts.length]'hi):=by
     unfold lineL tailL
     rw [if_pos rfl,List.append_assoc]
     rfl
    rw [List.drop_zero,et] at e
    rw [show k + ((xs[ts.length]'hi).f5.length + 2) = (k + (xs[ts.length]'hi).f5.length + 1) + 1 from by omega,spec_TreeText.l0,if_pos (by omega),if_pos (by omega),rdTI xs _ hi,hw,l01In_is,Option.bind_some,decide_eq_true hr,if_pos rfl,if_pos hr.1,if_pos (by omega),if_pos (by rw [hns];omega),e40]
    exact e
   refine Ev.shift _ e2 ?_
   rw [if_pos (show ruleIn g (xs[ts.length]'hi).f0 = true from decide_eq_true hr)]
   by_cases hk : kidsIn ts.length (xs[ts.length]'hi).f5 = true
   ·rw [if_pos hk]
    refine Ev.congr (fun k => if_pos hk) ?_
    by_cases hs : (lineL g ts (xs[ts.length]'hi)).length > 2000
    ·rw [if_pos hs]
     exact Ev.congr (f:=fun _ => some ⟨#[]⟩) (fun k => if_pos hs) (Ev.now _)
    ·rw [if_neg hs]
     refine Ev.congr (fun k => if_neg hs) ?_
     have e3:=ih (ts ++ [mkB (lineL g ts (xs[ts.length]'hi))]) (lowT_snoc hh hs) (by rw [List.length_append,List.length_singleton];omega) (by rw [List.length_append,List.length_singleton];omega)
     rw [List.length_append,List.length_singleton] at e3
     exact e3
   ·rw [if_neg hk]
    exact Ev.congr (f:=fun _ => some ⟨#[]⟩) (fun k => if_neg hk) (Ev.now _)
  ·rw [if_neg (show ¬ ruleIn g (xs[ts.length]'hi).f0 = true from by simpa [ruleIn] using hr)]
   refine Ev.shift 1 (f:=fun _ => some ⟨#[]⟩) (fun k => ?_) (Ev.now _)
   rw [spec_TreeText.l0,if_pos (by omega),if_pos (by omega),rdTI xs _ hi,hw,l01In_is,Option.bind_some,decide_eq_false hr,if_neg (by simp)]
theorem specTreeText_ev (g : List S51) (hg : smallG g) (xs : List S47) (hz : smallI xs) : Ev (fun k => spec_TreeText.f k g xs) (treeGo g [] xs) :=
 specTree_l0 g hg xs hz xs.length [] (fun t h => by simp at h) (by simp) (by simp)
theorem total_snoc (ts : List ByteArray) (ks : List Int) (j : Nat) (h : j < ks.length) : total ts (ks.take (j + 1)) = total ts (ks.take j) + (pick ts ks[j]).length:=by
 unfold total
 rw [List.take_add_one,List.getElem?_eq_getElem h,Option.toList_some,List.map_append,List.sum_append]
 rfl
theorem total_le (ts : List ByteArray) (ks : List Int) (j : Nat) : total ts (ks.take j) ≤ total ts ks:=by
 have h:=List.take_append_drop j ks
 have e : total ts ks = total ts (ks.take j) + total ts (ks.drop j):=by
  conv => lhs;rw [← h]
  unfold total
  rw [List.map_append,List.sum_append]
 omega
theorem implTree_l1 (g : List S51) (xs : List S47) (hl : xs.length ≤ 1048576) (ts : List ByteArray) (hh : lowT ts) (hi : ts.length < xs.length) (ks : List Int) (h5 : ks.length ≤ 1048576) (hk : kidsIn ts.length ks = true) (f0 f1 : Int) (f2 : List Int) (f3 f4 : Int) (f5 : List Int) (hf0 : 0 ≤ f0) (hf1 : f0 < g.length) (hn : (nm g f0).length ≤ 1048576) (r : Nat) :
  ∀ (k j : Nat) (acc : List ByteArray) (sz : Nat),ks.length - j = r → j ≤ ks.length → acc = (ks.take j).map (fun c => rdOf ByteArray.empty ts c) → sz = (nm g f0).length + 2 + (ks.length - 1) + total ts (ks.take j) → (j = 0 ∨ sz ≤ 2000) →
  impl_TreeText.l1 (k + r + 1) ts acc (sz : Int) xs (xs.length : Int) (ts.length : Int) ks (ks.length : Int) (j : Int) g f0 f1 f2 f3 f4 f5 = if (nm g f0).length + 2 + (ks.length - 1) + total ts ks > 2000 then some ⟨#[]⟩ else impl_TreeText.l0 k (ts ++ [mkB (nm g f0 ++ (40 :: (joinedL ts ks ++ [41])))]) xs (xs.length : Int) ((ts.length + 1 : Nat) : Int) g:=by
 induction r with
 | zero =>
  intro k j acc sz hr hj ha hs _
  have hjl:=joinedL_length ts ks
  rw [List.take_of_length_le (by omega)] at ha hs
  have hnm : (rd_T51 g f0).f0 = mkB (nm g f0):=(mk_data _).symm
  have e40 : mkB (nm g f0) ++ (⟨#[40]⟩ : ByteArray) = mkB (nm g f0 ++ [40]):=mk_append _ [40]
  rw [Nat.add_zero,impl_TreeText.l1,if_neg (by omega)]
  by_cases c : (nm g f0).length + 2 + (ks.length - 1) + total ts ks > 2000
  ·rw [if_pos (by omega),if_pos c]
  ·have hjn : strings_Join.f acc (⟨#[32]⟩ : ByteArray) = some (mkB (joinedL ts ks),acc):=by
    unfold strings_Join.f
    have ej : Go.Lib.join (acc.map (·.data.toList)) ((⟨#[32]⟩ : ByteArray).data.toList) = joinedL ts ks:=by rw [ha];exact joined_is ts ks
    rw [ej,if_pos (by omega),if_pos (by rw [ha,List.length_map];omega)]
    rfl
   have e1 : mkB (nm g f0 ++ [40]) ++ mkB (joinedL ts ks) = mkB (nm g f0 ++ [40] ++ joinedL ts ks):=mk_append _ _
   have e2 : mkB (nm g f0 ++ [40] ++ joinedL ts ks) ++ (⟨#[41]⟩ : ByteArray) = mkB (nm g f0 ++ [40] ++ joinedL ts ks ++ [41]):=mk_append _ [41]
   rw [if_neg (by omega),if_neg c,if_pos hf0,if_pos hf1,hnm,if_pos (by rw [mk_size];omega),hjn,Option.bind_some,e40]
   dsimp only
   rw [if_pos (by rw [mk_size,mk_size,List.length_append,List.length_singleton];omega),e1,if_pos (by rw [mk_size,List.length_append,List.length_append,List.length_singleton];omega),e2,if_pos (by omega),w64_len hi (by omega)]
   simp only [List.append_assoc,List.cons_append,List.nil_append]
 | succ r ih =>
  intro k j acc sz hr hj ha hs h0
  have hj2 : j < ks.length:=by omega
  have hc : 0 ≤ ks[j] ∧ ks[j] ≤ (ts.length : Int) - 1:=by
   have:=List.all_eq_true.1 hk ks[j] (List.getElem_mem hj2)
   simpa [kidIn] using this
  have hp:=pick_len hh hc.1 (by omega)
  have hps : (rdOf ByteArray.empty ts ks[j]).size = (pick ts ks[j]).length:=rfl
  have hsz : sz ≤ 3000000:=by
   rcases h0 with h0 | h0
   ·subst h0
    rw [hs,List.take_zero]
    show _ + 0 ≤ _
    omega
   ·omega
  have htk:=total_snoc ts ks j hj2
  have hle:=total_le ts ks (j + 1)
  have hw : wrap64 ((sz : Int) + ((rdOf ByteArray.empty ts ks[j]).size : Int)) = ((sz + (pick ts ks[j]).length : Nat) : Int):=by rw [hps,w64 (by omega) (by omega)];omega
  rw [show k + (r + 1) + 1 = (k + r + 1) + 1 from by omega,impl_TreeText.l1,if_pos (by omega),if_pos (by omega),if_pos (by omega),rdInt ks j hj2,if_pos hc.1,if_pos (by omega),hw]
  clear hw
  by_cases hbig : sz + (pick ts ks[j]).length > 2000
  ·rw [if_pos (by omega),if_pos (by omega)]
  ·have hacc : acc.length = j:=by rw [ha,List.length_map,List.length_take];omega
   rw [if_neg (by omega),if_pos (by omega),w64_len hj2 (by omega),ih k (j + 1) _ _ (by omega) (by omega) (by rw [ha,List.take_add_one,List.getElem?_eq_getElem hj2,Option.toList_some,List.map_append];rfl) (by omega) (.inr (by omega))]
theorem implTree_l0 (g : List S51) (hg : smallG g) (xs : List S47) (hz : smallI xs) (d : Nat) : ∀ (ts : List ByteArray),lowT ts → xs.length - ts.length = d → ts.length ≤ xs.length → 0 < xs.length → nodesIn ts.length (xs.drop ts.length) = true →
  Ev (fun k => impl_TreeText.l0 k ts xs (xs.length : Int) (ts.length : Int) g) (treeGo g ts (xs.drop ts.length)):=by
 have hl:=hz.1
 induction d with
 | zero =>
  intro ts hh hd hle hp _
  rw [List.drop_eq_nil_of_le (show xs.length ≤ ts.length by omega)]
  refine Ev.shift 1 (f:=fun _ => some (lastT ts)) (fun k => ?_) (Ev.now _)
  unfold lastT
  rw [impl_TreeText.l0,if_neg (by omega),if_neg (show ¬ ts.length = 0 by omega),w64 (by omega) (by omega),if_pos (by omega),if_pos (by omega)]
 | succ d ih =>
  intro ts hh hd hle hp hno
  have hi : ts.length < xs.length:=by omega
  have h5:=(hz.2 _ (List.getElem_mem hi)).2
  have hw : wrap64 ((g.length : Int) - 1) = (g.length : Int) - 1:=w64 (by have:=hg.1;omega) (by have:=hg.1;omega)
  rw [drop_get xs _ hi] at hno
  have hn2 : kidsIn ts.length (xs[ts.length]'hi).f5 = true ∧ nodesIn (ts.length + 1) (xs.drop (ts.length + 1)) = true:=by simpa [nodesIn] using hno
  rw [drop_get xs _ hi,treeGo]
  by_cases hr : 0 ≤ (xs[ts.length]'hi).f0 ∧ (xs[ts.length]'hi).f0 ≤ (g.length : Int) - 1
  ·have hn:=nm_len hg hr.1 (by omega)
   have hlen : (lineL g ts (xs[ts.length]'hi)).length = (nm g (xs[ts.length]'hi).f0).length + 2 + ((xs[ts.length]'hi).f5.length - 1) + total ts (xs[ts.length]'hi).f5:=by
    unfold lineL
    rw [List.length_append,List.length_cons,List.length_append,joinedL_length,List.length_singleton]
    omega
   have hsz : wrap64 (wrap64 (((rd_T51 g (xs[ts.length]'hi).f0).f0.size : Int) + 2) + mx (wrap64 (((xs[ts.length]'hi).f5.length : Int) - 1)) 0) = (((nm g (xs[ts.length]'hi).f0).length + 2 + ((xs[ts.length]'hi).f5.length - 1) : Nat) : Int):=by
    have hns : (rd_T51 g (xs[ts.length]'hi).f0).f0.size = (nm g (xs[ts.length]'hi).f0).length:=rfl
    have hm : mx (wrap64 (((xs[ts.length]'hi).f5.length : Int) - 1)) 0 = (((xs[ts.length]'hi).f5.length - 1 : Nat) : Int):=by
     rw [w64 (by omega) (by omega)]
     unfold mx
     split <;> omega
    rw [hns,hm,w64 (n:=_ + 2) (by omega) (by omega),w64 (by omega) (by omega)]
    omega
   have e2 : ∀ k,impl_TreeText.l0 (k + ((xs[ts.length]'hi).f5.length + 2)) ts xs (xs.length : Int) (ts.length : Int) g = if (lineL g ts (xs[ts.length]'hi)).length > 2000 then some ⟨#[]⟩ else impl_TreeText.l0 k (ts ++ [mkB (lineL g ts (xs[ts.length]'hi))]) xs (xs.length : Int) ((ts.length + 1 : Nat) : Int) g:=by
    intro k
    have e:=implTree_l1 g xs hl ts hh hi (xs[ts.length]'hi).f5 h5 hn2.1 (xs[ts.length]'hi).f0 (xs[ts.length]'hi).f1 (xs[ts.length]'hi).f2 (xs[ts.length]'hi).f3 (xs[ts.length]'hi).f4 (xs[ts.length]'hi).f5 hr.1 (by omega) hn (xs[ts.length]'hi).f5.length k 0 [] ((nm g (xs[ts.length]'hi).f0).length + 2 + ((xs[ts.length]'hi).f5.length - 1)) (by omega) (by omega) (by simp) (by rw [List.take_zero];rfl) (.inl rfl)
    rw [← hlen] at e
    rw [show k + ((xs[ts.length]'hi).f5.length + 2) = (k + (xs[ts.length]'hi).f5.length + 1) + 1 from by omega,impl_TreeText.l0,if_pos (by omega),if_pos (by omega),if_pos (by omega),rdTI xs _ hi,hw,within_is,Option.bind_some,decide_eq_true hr,if_pos rfl,if_pos hr.1,if_pos (by omega),hsz]
    exact e
   refine Ev.shift _ e2 ?_
   rw [if_pos (show ruleIn g (xs[ts.length]'hi).f0 = true from decide_eq_true hr),if_pos hn2.1]
   by_cases hs : (lineL g ts (xs[ts.length]'hi)).length > 2000
   ·rw [if_pos hs]
    exact Ev.congr (f:=fun _ => some ⟨#[]⟩) (fun k => if_pos hs) (Ev.now _)
   ·rw [if_neg hs]
    refine Ev.congr (fun k => if_neg hs) ?_
    have e3:=ih (ts ++ [mkB (lineL g ts (xs[ts.length]'hi))]) (lowT_snoc hh hs) (by rw [List.length_append,List.length_singleton];omega) (by rw [List.length_append,List.length_singleton];omega) hp (by rw [List.length_append,List.length_singleton];exact hn2.2)
    rw [List.length_append,List.length_singleton] at e3
    exact e3
  ·rw [if_neg (show ¬ ruleIn g (xs[ts.length]'hi).f0 = true from by simpa [ruleIn] using hr)]
   refine Ev.shift 1 (f:=fun _ => some ⟨#[]⟩) (fun k => ?_) (Ev.now _)
   rw [impl_TreeText.l0,if_pos (by omega),if_pos (by omega),if_pos (by omega),rdTI xs _ hi,hw,within_is,Option.bind_some,decide_eq_false hr,if_neg (by simp)]
theorem implTreeText_ev (g : List S51) (hg : smallG g) (xs : List S47) (hz : smallI xs) : Ev (fun k => impl_TreeText.f k g xs) (treeGo g [] xs):=by
 unfold impl_TreeText.f
 by_cases h0 : xs.length = 0
 ·obtain rfl : xs = []:=List.eq_nil_of_length_eq_zero h0
  refine Ev.shift 1 (f:=fun _ => some ⟨#[]⟩) (fun k => ?_) (Ev.now _)
  rw [if_pos (by simp),impl_TreeText.j0,if_pos (by rfl)]
 ·refine Ev.congr (fun k => if_neg (by omega)) ?_
  refine Ev.bind (Ev.from (xs.length + 1048577) (implKidsRight_is xs hz)) ?_
  by_cases hn : nodesIn 0 xs = true
  ·refine Ev.shift 1 (f:=fun k => impl_TreeText.l0 k [] xs (xs.length : Int) 0 g) (fun k => ?_) (implTree_l0 g hg xs hz xs.length [] (fun h hm => by simp at hm) (by simp) (by simp) (by omega) hn)
   rw [impl_TreeText.j0,hn,if_neg (by simp)]
  ·have hn' : nodesIn 0 xs = false:=by simpa using hn
   rw [treeGo_no g xs [] hn']
   refine Ev.shift 1 (f:=fun _ => some ⟨#[]⟩) (fun k => ?_) (Ev.now _)
   rw [impl_TreeText.j0,hn',if_pos (by rfl)]
theorem FnExactTreeText : laws_FnExactTreeText.Pure:=by
 intro gs xs hg hgl hx hxl
 have hxl : xs.length ≤ 9223372036854775807:=by unfold maxLen at hxl;exact hxl
 refine Ev.rounds (r:=true) ?_
 unfold laws_FnExactTreeText.f
 have eg : ∀ v,laws_szGrammar.f 20000000 gs 1048576 = some v → Ev (fun k => laws_szGrammar.f k gs 1048576) v:=fun v e => Ev.of (laws_szGrammar.mono gs 1048576) e
 rcases szGrammar_is gs hg hgl 1048576 (by omega) (by omega) 20000000 (by omega) with e | ⟨t,e,t0,t1,hz⟩
 ·refine Ev.bind (eg _ e) ?_
  exact Ev.congr (f:=fun _ => some true) (fun k => if_pos (by omega)) (Ev.now _)
 refine Ev.bind (eg _ e) (Ev.congr (fun k => if_neg (by omega)) ?_)
 have ex : ∀ v,laws_szTree.f (xs.length + 1) xs t = some v → Ev (fun k => laws_szTree.f k xs t) v:=fun v e => Ev.of (laws_szTree.mono xs t) e
 rcases szTree_is xs hx hxl t t0 t1 (xs.length + 1) (by omega) with e2 | ⟨r,e2,r0,_,hzt⟩
 ·refine Ev.bind (ex _ e2) ?_
  exact Ev.congr (f:=fun _ => some true) (fun k => if_pos (by omega)) (Ev.now _)
 refine Ev.bind (ex _ e2) (Ev.congr (fun k => if_neg (by omega)) ?_)
 have hi:=smallI_of hzt
 have hsg : smallG (gs.map toRu):=by
  refine ⟨by rw [List.length_map];exact hz.1,fun y hy => ?_⟩
  obtain ⟨x,hx,rfl⟩:=List.mem_map.1 hy
  exact (hz.2 x hx).1
 have et : Ev (fun k => laws_toTree.f k xs) (xs.map toTN):=Ev.from (1048577 + xs.length) (toTree_is xs hzt)
 have eG : Ev (fun k => laws_toGrammar.f k gs) (gs.map toRu):=Ev.from 12000000 (toGrammar_is gs hz)
 refine Ev.bind eG (Ev.bind et (Ev.bind (specTreeText_ev _ hsg _ hi) (Ev.bind eG (Ev.bind et (Ev.bind (implTreeText_ev _ hsg _ hi) ?_)))))
 refine Ev.congr (fun k => if_pos rfl) (Ev.bind eG (Ev.bind (Ev.from 12000000 (eqGrammar_self gs hz)) (Ev.congr (fun k => if_pos rfl) ?_)))
 refine Ev.bind et (Ev.bind (Ev.from (1048577 + (xs.map toTN).length) (eqTree_self _ hi)) ?_)
 exact Ev.congr (f:=fun _ => some true) (fun k => if_pos rfl) (Ev.now _)
end Go.Proofs.Ytkbgmojomgelbaa.Pure
