/- FnExactGrammarOk without Go: at every grammar the program's GrammarOk and the reference's answer the same. -/
import Derived.Test.YtkbgmojomgelbaaGreatMFnExactGrammarOkok
import Derived.Lib.Bytealg
import Derived.Lib.SlicesCompact
import Derived.Sort.Walk0
set_option linter.unusedVariables false
set_option linter.unusedSimpArgs false
set_option maxHeartbeats 400000
namespace Go.Proofs.YtkbgmojomgelbaaGreat.Pure
open Go.RowKit Go.Proofs.YtkbgmojomgelbaaGreat.MFnExactGrammarOk Go.Proofs.YtkbgmojomgelbaaGreatW.PrintWords Go.Proofs.YtkbgmojomgelbaaGreatW.PrintLast
theorem w64 {n : Int} (h : -9223372036854775808 ≤ n) (h' : n ≤ 9223372036854775807) : wrap64 n = n:=by unfold wrap64;omega
theorem w64_succ {i m : Nat} (h : i < m) (hm : m ≤ 140737488351232) : wrap64 ((i : Int) + 1) = ((i + 1 : Nat) : Int):=by
 rw [w64 (by omega) (by omega)];omega
theorem w64_bt (s : ByteArray) (i : Int) : wrap64 (bt s i) = bt s i:=by
 have:=bt_range s i
 exact w64 (by omega) (by omega)
def bs (s : ByteArray) : List Int:=s.data.toList.map fun b => (b.toNat : Int)
theorem bs_length (s : ByteArray) : (bs s).length = s.size:=by simp [bs]
theorem bs_get (s : ByteArray) (i : Nat) (h : i < s.size) : (bs s)[i]? = some (bt s i):=by
 have h2 : i < s.data.toList.length:=by simpa using h
 simp only [bs,List.getElem?_map,List.getElem?_eq_getElem h2,Option.map_some]
 unfold bt
 rw [dif_pos (by simpa using h)]
 rfl
theorem bs_drop (s : ByteArray) (i : Nat) (h : i < s.size) : (bs s).drop i = bt s i :: (bs s).drop (i + 1):=by
 have h2 : i < (bs s).length:=by rw [bs_length];exact h
 rw [List.drop_eq_getElem_cons h2]
 congr 1
 have:=bs_get s i h
 rw [List.getElem?_eq_getElem h2] at this
 exact Option.some.inj this
theorem bs_drop_nil (s : ByteArray) (i : Nat) (h : s.size ≤ i) : (bs s).drop i = []:=List.drop_eq_nil_of_le (by rw [bs_length];exact h)
theorem str_size (xs : List Int) : (strOfNums xs).size = xs.length:=by
 show ((xs.map fun n => UInt8.ofNat n.toNat).toArray).size = xs.length
 simp
theorem toList_eq {s t : ByteArray} : s.toList = t.toList ↔ s = t:=by
 rw [ByteArray.toList_eq,ByteArray.toList_eq]
 constructor
 ·intro h;cases s;cases t;simpa [Array.toList_inj] using h
 ·rintro rfl;rfl
theorem drop_get {α : Type} (xs : List α) (i : Nat) (h : i < xs.length) : xs.drop i = xs[i] :: xs.drop (i + 1):=List.drop_eq_getElem_cons h
theorem w64_len {i n : Nat} (h : i < n) (hn : n ≤ 9223372036854775807) : wrap64 ((i : Int) + 1) = ((i + 1 : Nat) : Int):=by
 rw [w64 (by omega) (by omega)];omega
theorem take_set {α : Type} (acc : List α) (i : Nat) (v : α) (h : i < acc.length) : (acc.set i v).take (i + 1) = acc.take i ++ [v]:=by
 rw [List.take_add_one,List.getElem?_set_self h,List.take_set_of_le (Nat.le_refl i)];rfl
theorem gen_to {α β : Type} (L : Nat → List α → List β → Int → Option (List β)) (c : α → β) (xs : List α) (K : Nat)
  (hstep : ∀ (k i : Nat) (acc : List β) (h : i < xs.length),acc.length = xs.length → K ≤ k → L (k + 1) xs acc (i : Int) = L k xs (acc.set i (c xs[i])) ((i + 1 : Nat) : Int))
  (hend : ∀ (k : Nat) (acc : List β),L (k + 1) xs acc (xs.length : Int) = some acc) (k : Nat) (acc : List β) (hk : K + xs.length < k) (ha : acc.length = xs.length) : L k xs acc 0 = some (xs.map c):=by
 have go : ∀ (d k i : Nat) (acc : List β),xs.length - i ≤ d → K + d < k → i ≤ xs.length → acc.length = xs.length → acc.take i = (xs.take i).map c → L k xs acc (i : Int) = some (xs.map c):=by
  intro d
  induction d with
  | zero =>
   intro k i acc hd hk hi ha ht
   obtain ⟨k,rfl⟩ : ∃ m,k = m + 1:=⟨k - 1,by omega⟩
   obtain rfl : i = xs.length:=by omega
   rw [hend]
   rw [List.take_length,← ha,List.take_length] at ht
   rw [ht]
  | succ d ih =>
   intro k i acc hd hk hi ha ht
   obtain ⟨k,rfl⟩ : ∃ m,k = m + 1:=⟨k - 1,by omega⟩
   by_cases hi2 : i < xs.length
   ·rw [hstep k i acc hi2 ha (by omega)]
    refine ih k (i + 1) _ (by omega) (by omega) (by omega) (by rw [List.length_set];exact ha) ?_
    rw [take_set acc i _ (by omega),ht,List.take_add_one,List.getElem?_eq_getElem hi2,List.map_append]
    rfl
   ·obtain rfl : i = xs.length:=by omega
    rw [hend]
    rw [List.take_length,← ha,List.take_length] at ht
    rw [ht]
 exact go xs.length k 0 acc (by omega) hk (by omega) ha (by simp)
theorem gen_eq {β : Type} (L : Nat → List β → List β → Int → Option Bool) (xs : List β) (K : Nat)
  (hstep : ∀ (k i : Nat),i < xs.length → K ≤ k → L (k + 1) xs xs (i : Int) = L k xs xs ((i + 1 : Nat) : Int))
  (hend : ∀ k : Nat,L (k + 1) xs xs (xs.length : Int) = some true) (k : Nat) (hk : K + xs.length < k) : L k xs xs 0 = some true:=by
 have go : ∀ (d k i : Nat),xs.length - i ≤ d → K + d < k → i ≤ xs.length → L k xs xs (i : Int) = some true:=by
  intro d
  induction d with
  | zero =>
   intro k i hd hk hi
   obtain ⟨k,rfl⟩ : ∃ m,k = m + 1:=⟨k - 1,by omega⟩
   obtain rfl : i = xs.length:=by omega
   exact hend k
  | succ d ih =>
   intro k i hd hk hi
   obtain ⟨k,rfl⟩ : ∃ m,k = m + 1:=⟨k - 1,by omega⟩
   by_cases hi2 : i < xs.length
   ·rw [hstep k i hi2 (by omega)]
    exact ih k (i + 1) (by omega) (by omega) (by omega)
   ·obtain rfl : i = xs.length:=by omega
    exact hend k
 exact go xs.length k 0 (by omega) hk (by omega)
theorem gen_sz {α : Type} (L : Nat → List α → Int → Int → Option Int) (xs : List α) (P : α → Prop) (K : Nat)
  (hstep : ∀ (k i : Nat) (left : Int) (h : i < xs.length),0 ≤ left → left ≤ 1048576 → K ≤ k → L (k + 1) xs left (i : Int) = some (-1) ∨ ∃ t,0 ≤ t ∧ t ≤ left ∧ P xs[i] ∧ L (k + 1) xs left (i : Int) = L k xs t ((i + 1 : Nat) : Int))
  (hend : ∀ (k : Nat) (left : Int),L (k + 1) xs left (xs.length : Int) = some left) (k : Nat) (left : Int) (hk : K + xs.length < k) (h0 : 0 ≤ left) (h1 : left ≤ 1048576) :
  L k xs left 0 = some (-1) ∨ ∃ r,L k xs left 0 = some r ∧ 0 ≤ r ∧ r ≤ left ∧ ∀ y ∈ xs,P y:=by
 have go : ∀ (d k i : Nat) (left : Int),xs.length - i ≤ d → K + d < k → i ≤ xs.length → 0 ≤ left → left ≤ 1048576 → L k xs left (i : Int) = some (-1) ∨ ∃ r,L k xs left (i : Int) = some r ∧ 0 ≤ r ∧ r ≤ left ∧ ∀ y ∈ xs.drop i,P y:=by
  intro d
  induction d with
  | zero =>
   intro k i left hd hk hi h0 h1
   obtain ⟨k,rfl⟩ : ∃ m,k = m + 1:=⟨k - 1,by omega⟩
   obtain rfl : i = xs.length:=by omega
   exact .inr ⟨left,hend k left,h0,Int.le_refl _,by simp⟩
  | succ d ih =>
   intro k i left hd hk hi h0 h1
   obtain ⟨k,rfl⟩ : ∃ m,k = m + 1:=⟨k - 1,by omega⟩
   by_cases hi2 : i < xs.length
   ·rcases hstep k i left hi2 h0 h1 (by omega) with h | ⟨t,t0,t1,hp,h⟩
    ·exact .inl h
    ·rw [h]
     rcases ih k (i + 1) t (by omega) (by omega) (by omega) t0 (by omega) with h | ⟨r,hr,r0,r1,ha⟩
     ·exact .inl h
     ·refine .inr ⟨r,hr,r0,by omega,fun y hy => ?_⟩
      rw [drop_get xs i hi2,List.mem_cons] at hy
      rcases hy with rfl | hy
      ·exact hp
      ·exact ha y hy
   ·obtain rfl : i = xs.length:=by omega
    exact .inr ⟨left,hend k left,h0,Int.le_refl _,by simp⟩
 have:=go xs.length k 0 left (by omega) hk (by omega) h0 h1
 simpa using this
theorem rdInt (xs : List Int) (i : Nat) (h : i < xs.length) : rd xs (i : Int) = xs[i]:=by simp [rd,List.getD,h]
theorem szIntS_is (xs : List Int) (hl : xs.length ≤ 9223372036854775807) (left : Int) (h0 : 0 ≤ left) (h1 : left ≤ 1048576) : laws_szIntS.f xs left = some (-1) ∨ ∃ t,laws_szIntS.f xs left = some t ∧ 0 ≤ t ∧ t ≤ left ∧ xs.length ≤ 1048576:=by
 unfold laws_szIntS.f
 rw [w64 (n:=left - (xs.length : Int)) (by omega) (by omega)]
 by_cases h : left - (xs.length : Int) < 0
 ·rw [if_pos h];exact .inl rfl
 ·rw [if_neg h];exact .inr ⟨_,rfl,by omega,by omega,by omega⟩
theorem toIntS_is (xs : List Int) (hl : xs.length ≤ 1048576) (k : Nat) (hk : xs.length < k) : laws_toIntS.f k xs = some xs:=by
 unfold laws_toIntS.f
 rw [if_pos (by omega),if_pos (by omega)]
 have h:=gen_to (fun k x a i => laws_toIntS.l0 k x a i) id xs 0 (fun k i acc h ha _ => by
   show laws_toIntS.l0 (k + 1) xs acc (i : Int) = _
   rw [laws_toIntS.l0,if_pos (by omega),if_pos (by omega),if_pos (by omega),rdInt xs i h,w64_len h (by omega)];rfl)
  (fun k acc => by show laws_toIntS.l0 (k + 1) xs acc _ = _;rw [laws_toIntS.l0,if_neg (by omega)]) k (List.replicate ((xs.length : Int)).toNat 0) (by omega) (by simp)
 rw [List.map_id] at h
 exact h
theorem eqIntS_self (xs : List Int) (hl : xs.length ≤ 9223372036854775807) (k : Nat) (hk : xs.length < k) : laws_eqIntS.f k xs xs = some true:=by
 unfold laws_eqIntS.f
 rw [if_pos rfl]
 exact gen_eq (fun k x a i => laws_eqIntS.l0 k x a i) xs 0 (fun k i h _ => by
   show laws_eqIntS.l0 (k + 1) xs xs (i : Int) = _
   rw [laws_eqIntS.l0,if_pos (by omega),if_pos (by omega),if_pos (by omega),if_pos rfl,w64_len h hl])
  (fun k => by show laws_eqIntS.l0 (k + 1) xs xs _ = _;rw [laws_eqIntS.l0,if_neg (by omega)]) k (by omega)
theorem Ev.shift {α : Type} {g f : Nat → Option α} {r : α} (c : Nat) (h : ∀ k,g (k + c) = f k) (k : Ev f r) : Ev g r:=by
 obtain ⟨K,k⟩:=k
 refine ⟨K + c,fun n hn => ?_⟩
 obtain ⟨m,rfl⟩ : ∃ m,n = m + c:=⟨n - c,by omega⟩
 rw [h]
 exact k m (by omega)
theorem Ev.from {α : Type} {g : Nat → Option α} {r : α} (B : Nat) (h : ∀ k,B < k → g k = some r) : Ev g r:=⟨B + 1,fun k hk => h k (by omega)⟩
theorem rdEL (xs : List S219) (i : Nat) (h : i < xs.length) : rd_T219 xs (i : Int) = xs[i]:=by simp [rd_T219,List.getD,h]
theorem rdEI (xs : List S147) (i : Nat) (h : i < xs.length) : rd_T147 xs (i : Int) = xs[i]:=by simp [rd_T147,List.getD,h]
def smallE (y : S219) : Prop:=y.f2.size ≤ 1048576 ∧ y.f3.length ≤ 1048576
theorem szExNode_is (y : S219) (h2 : y.f2.size ≤ 9223372036854775807) (h3 : y.f3.length ≤ 9223372036854775807) (left : Int) (h0 : 0 ≤ left) (h1 : left ≤ 1048576) :
  laws_szExNode.f y.f0 y.f1 y.f2 y.f3 left = some (-1) ∨ ∃ t,laws_szExNode.f y.f0 y.f1 y.f2 y.f3 left = some t ∧ 0 ≤ t ∧ t ≤ left ∧ smallE y:=by
 unfold laws_szExNode.f
 rw [w64 (n:=left - (y.f2.size : Int)) (by omega) (by omega)]
 by_cases h : left - (y.f2.size : Int) < 0
 ·rw [if_pos h];exact .inl rfl
 ·rw [if_neg h]
  rcases szIntS_is y.f3 h3 (left - (y.f2.size : Int)) (by omega) (by omega) with e | ⟨t,e,t0,t1,l3⟩
  ·rw [e,Option.bind_some,if_pos (by omega)];exact .inl rfl
  ·rw [e,Option.bind_some,if_neg (by omega)];exact .inr ⟨t,rfl,t0,by omega,by unfold smallE;omega⟩
def szExprOk (xs : List S219) : Prop:=xs.length ≤ 1048576 ∧ ∀ y ∈ xs,smallE y
theorem szExpr_is (xs : List S219) (hx : ∀ y ∈ xs,ok219 y) (hl : xs.length ≤ 9223372036854775807) (left : Int) (h0 : 0 ≤ left) (h1 : left ≤ 1048576) (k : Nat) (hk : xs.length < k) :
  laws_szExpr.f k xs left = some (-1) ∨ ∃ r,laws_szExpr.f k xs left = some r ∧ 0 ≤ r ∧ r ≤ left ∧ szExprOk xs:=by
 unfold laws_szExpr.f laws_szExNodeS.f
 rw [w64 (n:=left - (xs.length : Int)) (by omega) (by omega)]
 by_cases h2 : left - (xs.length : Int) < 0
 ·rw [if_pos h2,Option.bind_some,if_pos (by omega)];exact .inl rfl
 ·rw [if_neg h2]
  have g:=gen_sz (fun k x a i => laws_szExNodeS.l0 k x a i) xs smallE 0 (fun k i left h h0 h1 _ => by
    show laws_szExNodeS.l0 (k + 1) xs left (i : Int) = _ ∨ ∃ t,_ ∧ _ ∧ _ ∧ laws_szExNodeS.l0 (k + 1) xs left (i : Int) = laws_szExNodeS.l0 k xs t ((i + 1 : Nat) : Int)
    have ho:=hx xs[i] (List.getElem_mem h)
    have m2 : xs[i].f2.size ≤ 9223372036854775807:=by have:=ho.2.2.1;unfold maxLen at this;exact this
    have m3 : xs[i].f3.length ≤ 9223372036854775807:=by have:=ho.2.2.2.2;unfold maxLen at this;exact this
    rw [laws_szExNodeS.l0,if_pos (by omega),if_pos (by omega),rdEL xs i h,w64_len h hl]
    rcases szExNode_is xs[i] m2 m3 left h0 h1 with e | ⟨t,e,t0,t1,p⟩
    ·rw [e,Option.bind_some,if_pos (by omega)];exact .inl rfl
    ·rw [e,Option.bind_some,if_neg (by omega)];exact .inr ⟨t,t0,t1,p,rfl⟩)
   (fun k left => by show laws_szExNodeS.l0 (k + 1) xs left _ = _;rw [laws_szExNodeS.l0,if_neg (by omega)]) k (left - (xs.length : Int)) (by omega) (by omega) (by omega)
  rcases g with g | ⟨r,g,r0,r1,ha⟩
  ·rw [show laws_szExNodeS.l0 k xs (left - (xs.length : Int)) 0 = some (-1) from g,Option.bind_some,if_pos (by omega)];exact .inl rfl
  ·rw [show laws_szExNodeS.l0 k xs (left - (xs.length : Int)) 0 = some r from g,Option.bind_some,if_neg (by omega)];exact .inr ⟨r,rfl,r0,by omega,by omega,ha⟩
def toEN (x : S219) : S147:=⟨x.f0,x.f1,x.f2,x.f3⟩
theorem toExpr_is (xs : List S219) (hz : szExprOk xs) (k : Nat) (hk : 1048577 + xs.length < k) : laws_toExpr.f k xs = some (xs.map toEN):=by
 obtain ⟨hl,ha⟩:=hz
 unfold laws_toExpr.f laws_toExNodeS.f
 rw [if_pos (by omega),if_pos (by omega)]
 have h:=gen_to (fun k x a i => laws_toExNodeS.l0 k x a i) toEN xs 1048577 (fun k i acc h hacc hk => by
   show laws_toExNodeS.l0 (k + 1) xs acc (i : Int) = _
   have p:=(ha xs[i] (List.getElem_mem h)).2
   rw [laws_toExNodeS.l0,if_pos (by omega),if_pos (by omega),rdEL xs i h,w64_len h (by omega)]
   unfold laws_toExNode.f
   rw [toIntS_is _ p k (by omega),Option.bind_some,Option.bind_some,if_pos (by omega)]
   rfl)
  (fun k acc => by show laws_toExNodeS.l0 (k + 1) xs acc _ = _;rw [laws_toExNodeS.l0,if_neg (by omega)]) k (List.replicate ((xs.length : Int)).toNat z147) hk (by simp)
 rw [show laws_toExNodeS.l0 k xs (List.replicate ((xs.length : Int)).toNat z147) 0 = _ from h];rfl
def smallEI (xs : List S147) : Prop:=xs.length ≤ 1048576 ∧ ∀ y ∈ xs,y.f2.size ≤ 1048576 ∧ y.f3.length ≤ 1048576
theorem smallEI_of {xs : List S219} (h : szExprOk xs) : smallEI (xs.map toEN):=by
 refine ⟨by rw [List.length_map];exact h.1,fun y hy => ?_⟩
 obtain ⟨x,hx,rfl⟩:=List.mem_map.1 hy
 exact h.2 x hx
theorem eqExpr_self (xs : List S147) (hz : smallEI xs) (k : Nat) (hk : 1048577 + xs.length < k) : laws_eqExpr.f k xs xs = some true:=by
 unfold laws_eqExpr.f laws_eqExNodeS.f
 rw [if_pos rfl]
 have h:=gen_eq (fun k x a i => laws_eqExNodeS.l0 k x a i) xs 1048577 (fun k i h hk => by
   show laws_eqExNodeS.l0 (k + 1) xs xs (i : Int) = _
   have p:=(hz.2 xs[i] (List.getElem_mem h)).2
   have hl:=hz.1
   rw [laws_eqExNodeS.l0,if_pos (by omega),if_pos (by omega),if_pos (by omega),rdEI xs i h,w64_len h (by omega)]
   unfold laws_eqExNode.f
   rw [if_pos (show xs[i].f0 = xs[i].f0 from rfl),if_pos (show xs[i].f1 = xs[i].f1 from rfl),if_pos (show xs[i].f2.toList = xs[i].f2.toList from rfl),eqIntS_self _ (by omega) k (by omega),Option.bind_some,if_pos (show true = true from rfl),Option.bind_some,if_pos (show true = true from rfl)])
  (fun k => by show laws_eqExNodeS.l0 (k + 1) xs xs _ = _;rw [laws_eqExNodeS.l0,if_neg (by omega)]) k (by omega)
 rw [show laws_eqExNodeS.l0 k xs xs 0 = _ from h]
 rfl
theorem rdStr (xs : List ByteArray) (i : Nat) (h : i < xs.length) : rdOf ByteArray.empty xs (i : Int) = xs[i]:=by simp [rdOf,List.getD,h]
theorem mxl {n : Nat} (h : n ≤ maxLen) : n ≤ 9223372036854775807:=by unfold maxLen at h;exact h
theorem szStringS_is (xs : List ByteArray) (hx : ∀ y ∈ xs,y.size ≤ maxLen) (hl : xs.length ≤ maxLen) (left : Int) (h0 : 0 ≤ left) (h1 : left ≤ 1048576) (k : Nat) (hk : 2000000 < k) :
  laws_szStringS.f k xs left = some (-1) ∨ ∃ t,laws_szStringS.f k xs left = some t ∧ 0 ≤ t ∧ t ≤ left ∧ xs.length ≤ 1048576 ∧ ∀ y ∈ xs,y.size ≤ 1048576:=by
 have hl:=mxl hl
 unfold laws_szStringS.f
 rw [w64 (n:=left - (xs.length : Int)) (by omega) (by omega)]
 by_cases h2 : left - (xs.length : Int) < 0
 ·rw [if_pos h2];exact .inl rfl
 ·rw [if_neg h2]
  have g:=gen_sz (fun k x a i => laws_szStringS.l0 k x a i) xs (fun y => y.size ≤ 1048576) 0 (fun k i left h h0 h1 _ => by
    show laws_szStringS.l0 (k + 1) xs left (i : Int) = _ ∨ ∃ t,_ ∧ _ ∧ _ ∧ laws_szStringS.l0 (k + 1) xs left (i : Int) = laws_szStringS.l0 k xs t ((i + 1 : Nat) : Int)
    have m2:=mxl (hx xs[i] (List.getElem_mem h))
    rw [laws_szStringS.l0,if_pos (by omega),if_pos (by omega),rdStr xs i h,w64_len h hl,w64 (n:=left - (xs[i].size : Int)) (by omega) (by omega)]
    by_cases c : left - (xs[i].size : Int) < 0
    ·rw [if_pos c];exact .inl rfl
    ·rw [if_neg c];exact .inr ⟨_,by omega,by omega,by omega,rfl⟩)
   (fun k left => by show laws_szStringS.l0 (k + 1) xs left _ = _;rw [laws_szStringS.l0,if_neg (by omega)]) k (left - (xs.length : Int)) (by omega) (by omega) (by omega)
  rcases g with g | ⟨r,g,r0,r1,ha⟩
  ·exact .inl g
  ·exact .inr ⟨r,g,r0,by omega,by omega,ha⟩
theorem toStringS_is (xs : List ByteArray) (hl : xs.length ≤ 1048576) (k : Nat) (hk : 2000000 < k) : laws_toStringS.f k xs = some xs:=by
 unfold laws_toStringS.f
 rw [if_pos (by omega),if_pos (by omega)]
 have h:=gen_to (fun k x a i => laws_toStringS.l0 k x a i) id xs 0 (fun k i acc h ha _ => by
   show laws_toStringS.l0 (k + 1) xs acc (i : Int) = _
   rw [laws_toStringS.l0,if_pos (by omega),if_pos (by omega),if_pos (by omega),rdStr xs i h,w64_len h (by omega)];rfl)
  (fun k acc => by show laws_toStringS.l0 (k + 1) xs acc _ = _;rw [laws_toStringS.l0,if_neg (by omega)]) k (List.replicate ((xs.length : Int)).toNat (⟨#[]⟩ : ByteArray)) (by omega) (by simp)
 rw [List.map_id] at h
 exact h
theorem eqStringS_self (xs : List ByteArray) (hl : xs.length ≤ 1048576) (k : Nat) (hk : 2000000 < k) : laws_eqStringS.f k xs xs = some true:=by
 unfold laws_eqStringS.f
 rw [if_pos rfl]
 exact gen_eq (fun k x a i => laws_eqStringS.l0 k x a i) xs 0 (fun k i h _ => by
   show laws_eqStringS.l0 (k + 1) xs xs (i : Int) = _
   rw [laws_eqStringS.l0,if_pos (by omega),if_pos (by omega),if_pos (by omega),if_pos rfl,w64_len h (by omega)])
  (fun k => by show laws_eqStringS.l0 (k + 1) xs xs _ = _;rw [laws_eqStringS.l0,if_neg (by omega)]) k (by omega)
theorem rdSE (xs : List S200) (i : Nat) (h : i < xs.length) : rd_T200 xs (i : Int) = xs[i]:=by simp [rd_T200,List.getD,h]
theorem rdSS (xs : List S170) (i : Nat) (h : i < xs.length) : rd_T170 xs (i : Int) = xs[i]:=by simp [rd_T170,List.getD,h]
theorem rdSA (xs : List S131) (i : Nat) (h : i < xs.length) : rd_T131 xs (i : Int) = xs[i]:=by simp [rd_T131,List.getD,h]
theorem rdSR (xs : List S73) (i : Nat) (h : i < xs.length) : rd_T73 xs (i : Int) = xs[i]:=by simp [rd_T73,List.getD,h]
theorem rdIE (xs : List S123) (i : Nat) (h : i < xs.length) : rd_T123 xs (i : Int) = xs[i]:=by simp [rd_T123,List.getD,h]
theorem rdIS (xs : List S76) (i : Nat) (h : i < xs.length) : rd_T76 xs (i : Int) = xs[i]:=by simp [rd_T76,List.getD,h]
theorem rdIA (xs : List S57) (i : Nat) (h : i < xs.length) : rd_T57 xs (i : Int) = xs[i]:=by simp [rd_T57,List.getD,h]
theorem rdIR (xs : List S49) (i : Nat) (h : i < xs.length) : rd_T49 xs (i : Int) = xs[i]:=by simp [rd_T49,List.getD,h]
theorem szExpr_k (xs : List S219) (hx : ∀ y ∈ xs,ok219 y) (hl : xs.length ≤ maxLen) (left : Int) (h0 : 0 ≤ left) (h1 : left ≤ 1048576) (k : Nat) (hk : 2000000 < k) :
  laws_szExpr.f k xs left = some (-1) ∨ ∃ r,laws_szExpr.f k xs left = some r ∧ 0 ≤ r ∧ r ≤ left ∧ szExprOk xs:=by
 have hl:=mxl hl
 by_cases c : xs.length ≤ 1048576
 ·exact szExpr_is xs hx hl left h0 h1 k (by omega)
 ·refine .inl ?_
  unfold laws_szExpr.f laws_szExNodeS.f
  rw [w64 (n:=left - (xs.length : Int)) (by omega) (by omega),if_pos (by omega),Option.bind_some,if_pos (by omega)]
theorem szExprS_is (xs : List S200) (hx : ∀ y ∈ xs,ok200 y) (hl : xs.length ≤ maxLen) (left : Int) (h0 : 0 ≤ left) (h1 : left ≤ 1048576) (k : Nat) (hk : 4000000 < k) :
  laws_szExprS.f k xs left = some (-1) ∨ ∃ t,laws_szExprS.f k xs left = some t ∧ 0 ≤ t ∧ t ≤ left ∧ xs.length ≤ 1048576 ∧ ∀ y ∈ xs,szExprOk y.f0:=by
 have hl:=mxl hl
 unfold laws_szExprS.f
 rw [w64 (n:=left - (xs.length : Int)) (by omega) (by omega)]
 by_cases h2 : left - (xs.length : Int) < 0
 ·rw [if_pos h2];exact .inl rfl
 ·rw [if_neg h2]
  have g:=gen_sz (fun k x a i => laws_szExprS.l0 k x a i) xs (fun y => szExprOk y.f0) 2000001 (fun k i left h h0 h1 hk => by
    show laws_szExprS.l0 (k + 1) xs left (i : Int) = _ ∨ ∃ t,_ ∧ _ ∧ _ ∧ laws_szExprS.l0 (k + 1) xs left (i : Int) = laws_szExprS.l0 k xs t ((i + 1 : Nat) : Int)
    have m2:=hx xs[i] (List.getElem_mem h)
    rw [laws_szExprS.l0,if_pos (by omega),if_pos (by omega),rdSE xs i h,w64_len h hl]
    rcases szExpr_k xs[i].f0 m2.1 m2.2 left h0 h1 k (by omega) with e | ⟨t,e,t0,t1,p⟩
    ·rw [e,Option.bind_some,if_pos (by omega)];exact .inl rfl
    ·rw [e,Option.bind_some,if_neg (by omega)];exact .inr ⟨t,t0,t1,p,rfl⟩)
   (fun k left => by show laws_szExprS.l0 (k + 1) xs left _ = _;rw [laws_szExprS.l0,if_neg (by omega)]) k (left - (xs.length : Int)) (by omega) (by omega) (by omega)
  rcases g with g | ⟨r,g,r0,r1,ha⟩
  ·exact .inl g
  ·exact .inr ⟨r,g,r0,by omega,by omega,ha⟩
def smallSy (y : S170) : Prop:=y.f2.length ≤ 1048576 ∧ (∀ e ∈ y.f2,szExprOk e.f0) ∧ y.f1.size ≤ 1048576 ∧ y.f3.size ≤ 1048576
theorem szSym_is (y : S170) (hy : ok170 y) (left : Int) (h0 : 0 ≤ left) (h1 : left ≤ 1048576) (k : Nat) (hk : 4000000 < k) :
  laws_szSym.f k y.f0 y.f1 y.f2 y.f3 left = some (-1) ∨ ∃ t,laws_szSym.f k y.f0 y.f1 y.f2 y.f3 left = some t ∧ 0 ≤ t ∧ t ≤ left ∧ smallSy y:=by
 obtain ⟨_,m1,⟨m2,m3⟩,m4⟩:=hy
 have m1:=mxl m1
 have m4:=mxl m4
 unfold laws_szSym.f
 rw [w64 (n:=left - (y.f1.size : Int)) (by omega) (by omega)]
 by_cases h : left - (y.f1.size : Int) < 0
 ·rw [if_pos h];exact .inl rfl
 ·rw [if_neg h]
  rcases szExprS_is y.f2 m2 m3 (left - (y.f1.size : Int)) (by omega) (by omega) k hk with e | ⟨t,e,t0,t1,p⟩
  ·rw [e,Option.bind_some,if_pos (by omega)];exact .inl rfl
  ·rw [e,Option.bind_some,if_neg (by omega),w64 (n:=t - (y.f3.size : Int)) (by omega) (by omega)]
   by_cases h3 : t - (y.f3.size : Int) < 0
   ·rw [if_pos h3];exact .inl rfl
   ·rw [if_neg h3];exact .inr ⟨_,rfl,by omega,by omega,p.1,p.2,by omega,by omega⟩
def smallAl (y : S131) : Prop:=y.f0.length ≤ 1048576 ∧ ∀ s ∈ y.f0,smallSy s
theorem szAlt_is (y : S131) (hy : ok131 y) (left : Int) (h0 : 0 ≤ left) (h1 : left ≤ 1048576) (k : Nat) (hk : 6000000 < k) :
  laws_szAlt.f k y.f0 left = some (-1) ∨ ∃ t,laws_szAlt.f k y.f0 left = some t ∧ 0 ≤ t ∧ t ≤ left ∧ smallAl y:=by
 obtain ⟨hx,hl⟩:=hy
 have hl:=mxl hl
 unfold laws_szAlt.f laws_szSymS.f
 rw [w64 (n:=left - (y.f0.length : Int)) (by omega) (by omega)]
 by_cases h2 : left - (y.f0.length : Int) < 0
 ·rw [if_pos h2,Option.bind_some,if_pos (by omega)];exact .inl rfl
 ·rw [if_neg h2]
  obtain ⟨xs⟩:=y
  have hx : ∀ y ∈ xs,ok170 y:=hx
  have hl : xs.length ≤ 9223372036854775807:=hl
  have h2 : ¬ left - (xs.length : Int) < 0:=h2
  have g:=gen_sz (fun k x a i => laws_szSymS.l0 k x a i) xs smallSy 4000001 (fun k i left h h0 h1 hk => by
    show laws_szSymS.l0 (k + 1) xs left (i : Int) = _ ∨ ∃ t,_ ∧ _ ∧ _ ∧ laws_szSymS.l0 (k + 1) xs left (i : Int) = laws_szSymS.l0 k xs t ((i + 1 : Nat) : Int)
    rw [laws_szSymS.l0,if_pos (by omega),if_pos (by omega),rdSS xs i h,w64_len h hl]
    rcases szSym_is xs[i] (hx xs[i] (List.getElem_mem h)) left h0 h1 k (by omega) with e | ⟨t,e,t0,t1,p⟩
    ·rw [e,Option.bind_some,if_pos (by omega)];exact .inl rfl
    ·rw [e,Option.bind_some,if_neg (by omega)];exact .inr ⟨t,t0,t1,p,rfl⟩)
   (fun k left => by show laws_szSymS.l0 (k + 1) xs left _ = _;rw [laws_szSymS.l0,if_neg (by omega)]) k (left - (xs.length : Int)) (by omega) (by omega) (by omega)
  show (laws_szSymS.l0 k xs (left - (xs.length : Int)) 0).bind _ = _ ∨ ∃ t,(laws_szSymS.l0 k xs (left - (xs.length : Int)) 0).bind _ = _ ∧ _
  rcases g with g | ⟨r,g,r0,r1,ha⟩
  ·rw [show laws_szSymS.l0 k xs (left - (xs.length : Int)) 0 = some (-1) from g,Option.bind_some,if_pos (by omega)];exact .inl rfl
  ·rw [show laws_szSymS.l0 k xs (left - (xs.length : Int)) 0 = some r from g,Option.bind_some,if_neg (by omega)];exact .inr ⟨r,rfl,r0,by omega,by show xs.length ≤ 1048576;omega,ha⟩
def smallRu (y : S73) : Prop:=y.f0.size ≤ 1048576 ∧ (y.f1.length ≤ 1048576 ∧ ∀ p ∈ y.f1,p.size ≤ 1048576) ∧ y.f2.length ≤ 1048576 ∧ ∀ a ∈ y.f2,smallAl a
theorem szAltS_is (xs : List S131) (hx : ∀ y ∈ xs,ok131 y) (hl : xs.length ≤ maxLen) (left : Int) (h0 : 0 ≤ left) (h1 : left ≤ 1048576) (k : Nat) (hk : 8000000 < k) :
  laws_szAltS.f k xs left = some (-1) ∨ ∃ t,laws_szAltS.f k xs left = some t ∧ 0 ≤ t ∧ t ≤ left ∧ xs.length ≤ 1048576 ∧ ∀ y ∈ xs,smallAl y:=by
 have hl:=mxl hl
 unfold laws_szAltS.f
 rw [w64 (n:=left - (xs.length : Int)) (by omega) (by omega)]
 by_cases h2 : left - (xs.length : Int) < 0
 ·rw [if_pos h2];exact .inl rfl
 ·rw [if_neg h2]
  have g:=gen_sz (fun k x a i => laws_szAltS.l0 k x a i) xs smallAl 6000001 (fun k i left h h0 h1 hk => by
    show laws_szAltS.l0 (k + 1) xs left (i : Int) = _ ∨ ∃ t,_ ∧ _ ∧ _ ∧ laws_szAltS.l0 (k + 1) xs left (i : Int) = laws_szAltS.l0 k xs t ((i + 1 : Nat) : Int)
    rw [laws_szAltS.l0,if_pos (by omega),if_pos (by omega),rdSA xs i h,w64_len h hl]
    rcases szAlt_is xs[i] (hx xs[i] (List.getElem_mem h)) left h0 h1 k (by omega) with e | ⟨t,e,t0,t1,p⟩
    ·rw [e,Option.bind_some,if_pos (by omega)];exact .inl rfl
    ·rw [e,Option.bind_some,if_neg (by omega)];exact .inr ⟨t,t0,t1,p,rfl⟩)
   (fun k left => by show laws_szAltS.l0 (k + 1) xs left _ = _;rw [laws_szAltS.l0,if_neg (by omega)]) k (left - (xs.length : Int)) (by omega) (by omega) (by omega)
  rcases g with g | ⟨r,g,r0,r1,ha⟩
  ·exact .inl g
  ·exact .inr ⟨r,g,r0,by omega,by omega,ha⟩
theorem szRule_is (y : S73) (hy : ok73 y) (left : Int) (h0 : 0 ≤ left) (h1 : left ≤ 1048576) (k : Nat) (hk : 8000000 < k) :
  laws_szRule.f k y.f0 y.f1 y.f2 left = some (-1) ∨ ∃ t,laws_szRule.f k y.f0 y.f1 y.f2 left = some t ∧ 0 ≤ t ∧ t ≤ left ∧ smallRu y:=by
 obtain ⟨m0,⟨m1,m2⟩,⟨m3,m4⟩⟩:=hy
 have m0:=mxl m0
 unfold laws_szRule.f
 rw [w64 (n:=left - (y.f0.size : Int)) (by omega) (by omega)]
 by_cases h : left - (y.f0.size : Int) < 0
 ·rw [if_pos h];exact .inl rfl
 ·rw [if_neg h]
  rcases szStringS_is y.f1 m1 m2 (left - (y.f0.size : Int)) (by omega) (by omega) k (by omega) with e | ⟨t,e,t0,t1,p⟩
  ·rw [e,Option.bind_some,if_pos (by omega)];exact .inl rfl
  ·rw [e,Option.bind_some,if_neg (by omega)]
   rcases szAltS_is y.f2 m3 m4 t t0 (by omega) k hk with e2 | ⟨t2,e2,u0,u1,q⟩
   ·rw [e2,Option.bind_some,if_pos (by omega)];exact .inl rfl
   ·rw [e2,Option.bind_some,if_neg (by omega)];exact .inr ⟨_,rfl,u0,by omega,by omega,p,q⟩
def smallGr (xs : List S73) : Prop:=xs.length ≤ 1048576 ∧ ∀ y ∈ xs,smallRu y
theorem szGrammar_is (xs : List S73) (hx : ∀ y ∈ xs,ok73 y) (hl : xs.length ≤ maxLen) (left : Int) (h0 : 0 ≤ left) (h1 : left ≤ 1048576) (k : Nat) (hk : 10000000 < k) :
  laws_szGrammar.f k xs left = some (-1) ∨ ∃ t,laws_szGrammar.f k xs left = some t ∧ 0 ≤ t ∧ t ≤ left ∧ smallGr xs:=by
 have hl:=mxl hl
 unfold laws_szGrammar.f laws_szRuleS.f
 rw [w64 (n:=left - (xs.length : Int)) (by omega) (by omega)]
 by_cases h2 : left - (xs.length : Int) < 0
 ·rw [if_pos h2,Option.bind_some,if_pos (by omega)];exact .inl rfl
 ·rw [if_neg h2]
  have g:=gen_sz (fun k x a i => laws_szRuleS.l0 k x a i) xs smallRu 8000001 (fun k i left h h0 h1 hk => by
    show laws_szRuleS.l0 (k + 1) xs left (i : Int) = _ ∨ ∃ t,_ ∧ _ ∧ _ ∧ laws_szRuleS.l0 (k + 1) xs left (i : Int) = laws_szRuleS.l0 k xs t ((i + 1 : Nat) : Int)
    rw [laws_szRuleS.l0,if_pos (by omega),if_pos (by omega),rdSR xs i h,w64_len h hl]
    rcases szRule_is xs[i] (hx xs[i] (List.getElem_mem h)) left h0 h1 k (by omega) with e | ⟨t,e,t0,t1,p⟩
    ·rw [e,Option.bind_some,if_pos (by omega)];exact .inl rfl
    ·rw [e,Option.bind_some,if_neg (by omega)];exact .inr ⟨t,t0,t1,p,rfl⟩)
   (fun k left => by show laws_szRuleS.l0 (k + 1) xs left _ = _;rw [laws_szRuleS.l0,if_neg (by omega)]) k (left - (xs.length : Int)) (by omega) (by omega) (by omega)
  rcases g with g | ⟨r,g,r0,r1,ha⟩
  ·rw [show laws_szRuleS.l0 k xs (left - (xs.length : Int)) 0 = some (-1) from g,Option.bind_some,if_pos (by omega)];exact .inl rfl
  ·rw [show laws_szRuleS.l0 k xs (left - (xs.length : Int)) 0 = some r from g,Option.bind_some,if_neg (by omega)];exact .inr ⟨r,rfl,r0,by omega,by omega,ha⟩
def toEx (x : S200) : S123:=⟨x.f0.map toEN⟩
def toSy (x : S170) : S76:=⟨x.f0,x.f1,x.f2.map toEx,x.f3⟩
def toAl (x : S131) : S57:=⟨x.f0.map toSy⟩
def toRu (x : S73) : S49:=⟨x.f0,x.f1,x.f2.map toAl⟩
theorem toExprS_is (xs : List S200) (hl : xs.length ≤ 1048576) (hx : ∀ y ∈ xs,szExprOk y.f0) (k : Nat) (hk : 6000000 < k) : laws_toExprS.f k xs = some (xs.map toEx):=by
 unfold laws_toExprS.f
 rw [if_pos (by omega),if_pos (by omega)]
 have h:=gen_to (fun k x a i => laws_toExprS.l0 k x a i) toEx xs 4000001 (fun k i acc h ha hk => by
   show laws_toExprS.l0 (k + 1) xs acc (i : Int) = _
   have p:=hx xs[i] (List.getElem_mem h)
   have p1:=p.1
   rw [laws_toExprS.l0,if_pos (by omega),if_pos (by omega),rdSE xs i h,toExpr_is _ p k (by omega),Option.bind_some,if_pos (by omega),w64_len h (by omega)];rfl)
  (fun k acc => by show laws_toExprS.l0 (k + 1) xs acc _ = _;rw [laws_toExprS.l0,if_neg (by omega)]) k (List.replicate ((xs.length : Int)).toNat z123) (by omega) (by simp)
 exact h
theorem toSym_is (y : S170) (hy : smallSy y) (k : Nat) (hk : 6000000 < k) : laws_toSym.f k y.f0 y.f1 y.f2 y.f3 = some (y.f0,y.f1,y.f2.map toEx,y.f3):=by
 unfold laws_toSym.f
 rw [toExprS_is y.f2 hy.1 hy.2.1 k hk,Option.bind_some]
theorem toAlt_is (xs : List S170) (hl : xs.length ≤ 1048576) (hx : ∀ y ∈ xs,smallSy y) (k : Nat) (hk : 8000000 < k) : laws_toAlt.f k xs = some (xs.map toSy):=by
 unfold laws_toAlt.f laws_toSymS.f
 rw [if_pos (by omega),if_pos (by omega)]
 have h:=gen_to (fun k x a i => laws_toSymS.l0 k x a i) toSy xs 6000001 (fun k i acc h ha hk => by
   show laws_toSymS.l0 (k + 1) xs acc (i : Int) = _
   rw [laws_toSymS.l0,if_pos (by omega),if_pos (by omega),rdSS xs i h,toSym_is _ (hx xs[i] (List.getElem_mem h)) k (by omega),Option.bind_some,if_pos (by omega),w64_len h (by omega)];rfl)
  (fun k acc => by show laws_toSymS.l0 (k + 1) xs acc _ = _;rw [laws_toSymS.l0,if_neg (by omega)]) k (List.replicate ((xs.length : Int)).toNat z76) (by omega) (by simp)
 rw [show laws_toSymS.l0 k xs (List.replicate ((xs.length : Int)).toNat z76) 0 = _ from h];rfl
theorem toAltS_is (xs : List S131) (hl : xs.length ≤ 1048576) (hx : ∀ y ∈ xs,smallAl y) (k : Nat) (hk : 10000000 < k) : laws_toAltS.f k xs = some (xs.map toAl):=by
 unfold laws_toAltS.f
 rw [if_pos (by omega),if_pos (by omega)]
 have h:=gen_to (fun k x a i => laws_toAltS.l0 k x a i) toAl xs 8000001 (fun k i acc h ha hk => by
   show laws_toAltS.l0 (k + 1) xs acc (i : Int) = _
   have p:=hx xs[i] (List.getElem_mem h)
   rw [laws_toAltS.l0,if_pos (by omega),if_pos (by omega),rdSA xs i h,toAlt_is _ p.1 p.2 k (by omega),Option.bind_some,if_pos (by omega),w64_len h (by omega)];rfl)
  (fun k acc => by show laws_toAltS.l0 (k + 1) xs acc _ = _;rw [laws_toAltS.l0,if_neg (by omega)]) k (List.replicate ((xs.length : Int)).toNat z57) (by omega) (by simp)
 exact h
theorem toRule_is (y : S73) (hy : smallRu y) (k : Nat) (hk : 10000000 < k) : laws_toRule.f k y.f0 y.f1 y.f2 = some (y.f0,y.f1,y.f2.map toAl):=by
 unfold laws_toRule.f
 rw [toStringS_is y.f1 hy.2.1.1 k (by omega),Option.bind_some,toAltS_is y.f2 hy.2.2.1 hy.2.2.2 k hk,Option.bind_some]
theorem toGrammar_is (xs : List S73) (hz : smallGr xs) (k : Nat) (hk : 12000000 < k) : laws_toGrammar.f k xs = some (xs.map toRu):=by
 obtain ⟨hl,hx⟩:=hz
 unfold laws_toGrammar.f laws_toRuleS.f
 rw [if_pos (by omega),if_pos (by omega)]
 have h:=gen_to (fun k x a i => laws_toRuleS.l0 k x a i) toRu xs 10000001 (fun k i acc h ha hk => by
   show laws_toRuleS.l0 (k + 1) xs acc (i : Int) = _
   rw [laws_toRuleS.l0,if_pos (by omega),if_pos (by omega),rdSR xs i h,toRule_is _ (hx xs[i] (List.getElem_mem h)) k (by omega),Option.bind_some,if_pos (by omega),w64_len h (by omega)];rfl)
  (fun k acc => by show laws_toRuleS.l0 (k + 1) xs acc _ = _;rw [laws_toRuleS.l0,if_neg (by omega)]) k (List.replicate ((xs.length : Int)).toNat z49) (by omega) (by simp)
 rw [show laws_toRuleS.l0 k xs (List.replicate ((xs.length : Int)).toNat z49) 0 = _ from h];rfl
theorem eqExprS_self (xs : List S200) (hl : xs.length ≤ 1048576) (hx : ∀ y ∈ xs,szExprOk y.f0) (k : Nat) (hk : 6000000 < k) : laws_eqExprS.f k (xs.map toEx) (xs.map toEx) = some true:=by
 unfold laws_eqExprS.f
 rw [if_pos rfl]
 exact gen_eq (fun k x a i => laws_eqExprS.l0 k x a i) (xs.map toEx) 4000001 (fun k i h hk => by
   show laws_eqExprS.l0 (k + 1) _ _ (i : Int) = _
   have h2 : i < xs.length:=by rwa [List.length_map] at h
   have p:=hx xs[i] (List.getElem_mem h2)
   have p1:=p.1
   rw [laws_eqExprS.l0,if_pos (by omega),if_pos (by omega),if_pos (by omega),rdIE _ i h,List.getElem_map,show (toEx xs[i]).f0 = xs[i].f0.map toEN from rfl,eqExpr_self _ (smallEI_of p) k (by rw [List.length_map];omega),Option.bind_some,if_pos rfl,w64_len h (by rw [List.length_map];omega)])
  (fun k => by show laws_eqExprS.l0 (k + 1) _ _ _ = _;rw [laws_eqExprS.l0,if_neg (by omega)]) k (by rw [List.length_map];omega)
theorem eqAlt_self (xs : List S170) (hl : xs.length ≤ 1048576) (hx : ∀ y ∈ xs,smallSy y) (k : Nat) (hk : 8000000 < k) : laws_eqAlt.f k (xs.map toSy) (xs.map toSy) = some true:=by
 unfold laws_eqAlt.f laws_eqSymS.f
 rw [if_pos rfl]
 have h:=gen_eq (fun k x a i => laws_eqSymS.l0 k x a i) (xs.map toSy) 6000001 (fun k i h hk => by
   show laws_eqSymS.l0 (k + 1) _ _ (i : Int) = _
   have h2 : i < xs.length:=by rwa [List.length_map] at h
   have p:=hx xs[i] (List.getElem_mem h2)
   rw [laws_eqSymS.l0,if_pos (by omega),if_pos (by omega),if_pos (by omega),rdIS _ i h,List.getElem_map]
   unfold laws_eqSym.f
   rw [if_pos rfl,if_pos rfl,show (toSy xs[i]).f2 = xs[i].f2.map toEx from rfl,eqExprS_self _ p.1 p.2.1 k (by omega),Option.bind_some,if_pos rfl,if_pos rfl,Option.bind_some,if_pos rfl,w64_len h (by rw [List.length_map];omega)])
  (fun k => by show laws_eqSymS.l0 (k + 1) _ _ _ = _;rw [laws_eqSymS.l0,if_neg (by omega)]) k (by rw [List.length_map];omega)
 rw [show laws_eqSymS.l0 k (xs.map toSy) (xs.map toSy) 0 = _ from h];rfl
theorem eqAltS_self (xs : List S131) (hl : xs.length ≤ 1048576) (hx : ∀ y ∈ xs,smallAl y) (k : Nat) (hk : 10000000 < k) : laws_eqAltS.f k (xs.map toAl) (xs.map toAl) = some true:=by
 unfold laws_eqAltS.f
 rw [if_pos rfl]
 exact gen_eq (fun k x a i => laws_eqAltS.l0 k x a i) (xs.map toAl) 8000001 (fun k i h hk => by
   show laws_eqAltS.l0 (k + 1) _ _ (i : Int) = _
   have h2 : i < xs.length:=by rwa [List.length_map] at h
   have p:=hx xs[i] (List.getElem_mem h2)
   rw [laws_eqAltS.l0,if_pos (by omega),if_pos (by omega),if_pos (by omega),rdIA _ i h,List.getElem_map,show (toAl xs[i]).f0 = xs[i].f0.map toSy from rfl,eqAlt_self _ p.1 p.2 k (by omega),Option.bind_some,if_pos rfl,w64_len h (by rw [List.length_map];omega)])
  (fun k => by show laws_eqAltS.l0 (k + 1) _ _ _ = _;rw [laws_eqAltS.l0,if_neg (by omega)]) k (by rw [List.length_map];omega)
theorem eqGrammar_self (xs : List S73) (hz : smallGr xs) (k : Nat) (hk : 12000000 < k) : laws_eqGrammar.f k (xs.map toRu) (xs.map toRu) = some true:=by
 obtain ⟨hl,hx⟩:=hz
 unfold laws_eqGrammar.f laws_eqRuleS.f
 rw [if_pos rfl]
 have h:=gen_eq (fun k x a i => laws_eqRuleS.l0 k x a i) (xs.map toRu) 10000001 (fun k i h hk => by
   show laws_eqRuleS.l0 (k + 1) _ _ (i : Int) = _
   have h2 : i < xs.length:=by rwa [List.length_map] at h
   have p:=hx xs[i] (List.getElem_mem h2)
   rw [laws_eqRuleS.l0,if_pos (by omega),if_pos (by omega),if_pos (by omega),rdIR _ i h,List.getElem_map]
   unfold laws_eqRule.f
   rw [if_pos rfl,show (toRu xs[i]).f1 = xs[i].f1 from rfl,eqStringS_self _ p.2.1.1 k (by omega),Option.bind_some,if_pos rfl,show (toRu xs[i]).f2 = xs[i].f2.map toAl from rfl,eqAltS_self _ p.2.2.1 p.2.2.2 k (by omega),Option.bind_some,if_pos rfl,Option.bind_some,if_pos rfl,
    w64_len h (by rw [List.length_map];omega)])
  (fun k => by show laws_eqRuleS.l0 (k + 1) _ _ _ = _;rw [laws_eqRuleS.l0,if_neg (by omega)]) k (by rw [List.length_map];omega)
 rw [show laws_eqRuleS.l0 k (xs.map toRu) (xs.map toRu) 0 = _ from h];rfl
theorem within_is (a b c : Int) : impl_within.f a b c = some (decide (b ≤ a ∧ a ≤ c)):=by
 unfold impl_within.f
 by_cases h : a ≥ b
 ·rw [if_pos h];simp [show b ≤ a from h]
 ·rw [if_neg h];simp [show ¬ b ≤ a from h]
theorem l01In_is (a b c : Int) : spec_l01In.f a b c = some (decide (b ≤ a ∧ a ≤ c)):=by
 unfold spec_l01In.f
 by_cases h : a ≥ b
 ·rw [if_pos h];simp [show b ≤ a from h]
 ·rw [if_neg h];simp [show ¬ b ≤ a from h]
def sb (c : Int) : Bool:=decide ((97 ≤ c ∧ c ≤ 122) ∨ (48 ≤ c ∧ c ≤ 57))
theorem l05Byte_is (c : Int) : spec_l05Byte.f c = some (sb c):=by
 unfold spec_l05Byte.f sb
 by_cases h : c ≥ 97
 ·rw [if_pos h]
  by_cases h2 : c ≤ 122
  ·rw [if_pos h2,decide_eq_true (Or.inl ⟨h,h2⟩)]
  ·rw [if_neg h2,if_pos (show c ≥ 48 by omega)]
   congr 1
   exact decide_eq_decide.2 (by omega)
 ·rw [if_neg h]
  by_cases h2 : c ≥ 48
  ·rw [if_pos h2]
   congr 1
   exact decide_eq_decide.2 (by omega)
  ·rw [if_neg h2,decide_eq_false (by omega)]
theorem isSmall_b (c : Int) (h0 : 0 ≤ c) (h1 : c ≤ 255) : impl_isSmall.f c = some (decide (97 ≤ c ∧ c ≤ 122)):=by
 unfold impl_isSmall.f
 rw [w64 (by omega) (by omega),within_is];rfl
theorem isFigure_b (c : Int) (h0 : 0 ≤ c) (h1 : c ≤ 255) : impl_isFigure.f c = some (decide (48 ≤ c ∧ c ≤ 57)):=by
 unfold impl_isFigure.f
 rw [w64 (by omega) (by omega),within_is];rfl
theorem isSetByte_b (c : Int) (h0 : 0 ≤ c) (h1 : c ≤ 255) : impl_isSetByte.f c = some (sb c):=by
 unfold impl_isSetByte.f
 rw [isSmall_b c h0 h1,Option.bind_some]
 by_cases h : 97 ≤ c ∧ c ≤ 122
 ·rw [if_pos (decide_eq_true h)]
  unfold sb
  rw [decide_eq_true (Or.inl h)]
 ·rw [if_neg (by simpa using h),isFigure_b c h0 h1,Option.bind_some]
  unfold sb
  congr 1
  exact decide_eq_decide.2 (by omega)
theorem indexByte_ge (u : UInt8) (l : List UInt8) : Go.Lib.indexByte l u ≥ -1 ∧ (Go.Lib.indexByte l u ≥ 0 ↔ u ∈ l):=by
 induction l with
 | nil =>
  show (-1 : Int) ≥ -1 ∧ ((-1 : Int) ≥ 0 ↔ u ∈ [])
  simp
 | cons b l ih =>
  obtain ⟨i1,i2⟩:=ih
  rw [Go.Lib.indexByte,List.mem_cons]
  by_cases h : (b == u) = true
  ·rw [if_pos h]
   have : u = b:=(eq_of_beq h).symm
   exact ⟨by decide,fun _ => Or.inl this,fun _ => by decide⟩
  ·rw [if_neg h]
   have hne : ¬ u = b:=fun e => h (by rw [e];exact beq_self_eq_true b)
   by_cases h2 : (Go.Lib.indexByte l u == -1) = true
   ·rw [if_pos h2]
    have h2:=eq_of_beq h2
    refine ⟨by decide,fun h => absurd h (by decide),fun h => ?_⟩
    rcases h with h | h
    ·exact absurd h hne
    ·have:=i2.2 h;omega
   ·rw [if_neg h2]
    have h3 : Go.Lib.indexByte l u ≠ -1:=fun e => h2 (by rw [e];rfl)
    exact ⟨by omega,fun _ => Or.inr (i2.1 (by omega)),fun _ => by omega⟩
theorem mem_bs (M : ByteArray) (c : Int) (h0 : 0 ≤ c) (h1 : c ≤ 255) : (bs M).any (fun m => m == c) = true ↔ c.toNat.toUInt8 ∈ M.data.toList:=by
 unfold bs
 constructor
 ·intro h
  obtain ⟨m,hm,e⟩:=List.any_eq_true.1 h
  have e:=eq_of_beq e
  subst e
  obtain ⟨u,hu,rfl⟩:=List.mem_map.1 hm
  have : ((u.toNat : Int)).toNat.toUInt8 = u:=by simp
  rw [this];exact hu
 ·intro h
  refine List.any_eq_true.2 ⟨c,List.mem_map.2 ⟨_,h,?_⟩,beq_self_eq_true c⟩
  have : c.toNat.toUInt8.toNat = c.toNat:=by
   show (UInt8.ofNat c.toNat).toNat = _
   rw [UInt8.toNat_ofNat']
   omega
  rw [this];omega
theorem text_l1 (s M : ByteArray) (hM : M.size ≤ 1000) (i : Nat) (hi : i < s.size) (r : Bool) (hn : Ev (fun k => spec_l06Text.l0 k s M (wrap64 ((i : Int) + 1))) r) (d : Nat) : ∀ (j : Nat) (b : Bool),M.size - j = d → j ≤ M.size →
  Ev (fun k => spec_l06Text.l1 k s M (i : Int) b (j : Int)) (if (b || ((bs M).drop j).any (fun m => m == bt s i)) = true then r else false):=by
 induction d with
 | zero =>
  intro j b hd hj
  rw [bs_drop_nil M j (by omega)]
  cases b with
  | true => exact Ev.shift 1 (fun k => by rw [spec_l06Text.l1,if_neg (by omega),if_pos rfl]) hn
  | false => exact Ev.shift 1 (f:=fun _ => some false) (fun k => by rw [spec_l06Text.l1,if_neg (by omega),if_neg (by simp)]) (Ev.now _)
 | succ d ih =>
  intro j b hd hj
  have w1 : wrap64 ((j : Int) + 1) = ((j + 1 : Nat) : Int):=by rw [w64 (by omega) (by omega)];omega
  cases b with
  | true =>
   have h:=ih (j + 1) true (by omega) (by omega)
   simp only [Bool.true_or,if_true] at h ⊢
   exact Ev.shift 1 (fun k => by rw [spec_l06Text.l1,if_pos (by omega),if_pos rfl,w1]) h
  | false =>
   have h:=ih (j + 1) (bt M j == bt s i) (by omega) (by omega)
   rw [bs_drop M j (by omega),List.any_cons,Bool.false_or]
   exact Ev.shift 1 (fun k => by rw [spec_l06Text.l1,if_pos (by omega),if_neg (by simp),if_pos (by omega),if_pos (by omega),if_pos (by omega),w1]) h
theorem text_l0 (s : ByteArray) (hs : s.size ≤ 1048576) (d : Nat) : ∀ i : Nat,s.size - i = d → i ≤ s.size →
  ∃ b,Ev (fun k => spec_l06Text.l0 k s (⟨#[43,45,42,94,40,41,91,93,58,44,59,46,61,60,62]⟩ : ByteArray) (i : Int)) b ∧ Ev (fun k => impl_textOk.l0 k s (s.size : Int) (i : Int)) b:=by
 induction d with
 | zero =>
  intro i hd hi
  refine ⟨decide ((1 : Int) ≤ (s.size : Int) ∧ (s.size : Int) ≤ 8),Ev.shift 1 (f:=fun _ => some _) (fun k => by rw [spec_l06Text.l0,if_neg (by omega),l01In_is];rfl) (Ev.now _),Ev.shift 1 (f:=fun _ => some _) (fun k => by rw [impl_textOk.l0,if_neg (by omega),within_is];rfl) (Ev.now _)⟩
 | succ d ih =>
  intro i hd hi
  obtain ⟨b,e1,e2⟩:=ih (i + 1) (by omega) (by omega)
  have w1 : wrap64 ((i : Int) + 1) = ((i + 1 : Nat) : Int):=by rw [w64 (by omega) (by omega)];omega
  have hc:=bt_range s i
  have e3:=text_l1 s (⟨#[43,45,42,94,40,41,91,93,58,44,59,46,61,60,62]⟩ : ByteArray) (by decide) i (by omega) b (by rw [w1];exact e1) (ByteArray.size ⟨#[43,45,42,94,40,41,91,93,58,44,59,46,61,60,62]⟩) 0 (sb (bt s i)) (by omega) (by omega)
  refine ⟨_,Ev.shift 1 (fun k => by rw [spec_l06Text.l0,if_pos (by omega),if_pos (by omega),l05Byte_is,Option.bind_some];rfl) e3,?_⟩
  rw [List.drop_zero]
  by_cases c : sb (bt s i) = true
  ·rw [c,Bool.true_or,if_pos rfl]
   exact Ev.shift 1 (fun k => by rw [impl_textOk.l0,if_pos (by omega),if_pos (by omega),if_pos (by omega),isSetByte_b _ hc.1 hc.2,Option.bind_some,if_pos c,w1]) e2
  ·rw [Bool.eq_false_iff.2 c,Bool.false_or]
   have hm:=mem_bs (⟨#[43,45,42,94,40,41,91,93,58,44,59,46,61,60,62]⟩ : ByteArray) (bt s i) hc.1 hc.2
   have hg:=indexByte_ge (bt s i).toNat.toUInt8 (⟨#[43,45,42,94,40,41,91,93,58,44,59,46,61,60,62]⟩ : ByteArray).data.toList
   by_cases q : Go.Lib.indexByte (⟨#[43,45,42,94,40,41,91,93,58,44,59,46,61,60,62]⟩ : ByteArray).data.toList (bt s i).toNat.toUInt8 < 0
   ·rw [if_neg (fun h => absurd (hg.2.2 (hm.1 h)) (by omega))]
    exact Ev.shift 1 (f:=fun _ => some false) (fun k => by rw [impl_textOk.l0,if_pos (by omega),if_pos (by omega),if_pos (by omega),isSetByte_b _ hc.1 hc.2,Option.bind_some,if_neg c,strings_IndexByte.f,Option.bind_some,if_pos q]) (Ev.now _)
   ·rw [if_pos (hm.2 (hg.2.1 (by omega)))]
    exact Ev.shift 1 (fun k => by rw [impl_textOk.l0,if_pos (by omega),if_pos (by omega),if_pos (by omega),isSetByte_b _ hc.1 hc.2,Option.bind_some,if_neg c,strings_IndexByte.f,Option.bind_some,if_neg q,w1]) e2
theorem text_ev (s : ByteArray) (hs : s.size ≤ 1048576) : ∃ b,Ev (fun k => spec_l06Text.f k s) b ∧ Ev (fun k => impl_textOk.f k s) b:=text_l0 s hs s.size 0 (by omega) (by omega)
def impl_EnvOnly.has (ns : List ByteArray) (v : ByteArray) : Bool:=ns.any fun y => v.toList == y.toList
theorem l03In_l0 (ns : List ByteArray) (v : ByteArray) (hl : ns.length ≤ 9223372036854775807) (d : Nat) : ∀ (k i : Nat),ns.length - i ≤ d → d < k → spec_l03In.l0 k ns v (i : Int) = some (impl_EnvOnly.has (ns.drop i) v):=by
 induction d with
 | zero =>
  intro k i hd hk
  obtain ⟨k,rfl⟩ : ∃ m,k = m + 1:=⟨k - 1,by omega⟩
  rw [spec_l03In.l0,if_neg (by omega),List.drop_eq_nil_of_le (by omega)];rfl
 | succ d ih =>
  intro k i hd hk
  obtain ⟨k,rfl⟩ : ∃ m,k = m + 1:=⟨k - 1,by omega⟩
  by_cases hi : i < ns.length
  ·rw [spec_l03In.l0,if_pos (by omega),if_pos (by omega),rdStr ns i hi,w64_len hi hl,ih k (i + 1) (by omega) (by omega),drop_get ns i hi]
   unfold impl_EnvOnly.has
   rw [List.any_cons]
   by_cases h : ns[i].toList = v.toList
   ·rw [if_pos h,h];simp
   ·rw [if_neg h,show (v.toList == ns[i].toList) = false from by simpa using fun e => h e.symm,Bool.false_or]
  ·rw [spec_l03In.l0,if_neg (by omega),List.drop_eq_nil_of_le (by omega)];rfl
theorem l03In_is (ns : List ByteArray) (v : ByteArray) (hl : ns.length ≤ 9223372036854775807) (k : Nat) (hk : ns.length < k) : spec_l03In.f k ns v = some (impl_EnvOnly.has ns v):=by
 unfold spec_l03In.f
 exact l03In_l0 ns v hl ns.length k 0 (by omega) hk
abbrev LB:=List UInt8
theorem lb_irrefl (x : LB) : ¬ x < x:=List.lt_irrefl x
theorem lb_trans {x y z : LB} (h : x < y) (k : y < z) : x < z:=List.lt_trans h k
theorem lb_asymm {x y : LB} (h : x < y) : ¬ y < x:=fun k => lb_irrefl x (lb_trans h k)
theorem lb_total {x y : LB} (h : ¬ x < y) (k : ¬ y < x) : x = y:=List.le_antisymm k h
theorem asc_ext : ∀ {a b : List LB},a.Pairwise (· < ·) → b.Pairwise (· < ·) → (∀ x,x ∈ a ↔ x ∈ b) → a = b
 | [],[],_,_,_ => rfl
 | [],y :: b,_,_,h => by have:=(h y).2 (by simp);cases this
 | x :: a,[],_,_,h => by have:=(h x).1 (by simp);cases this
 | x :: a,y :: b,ha,hb,h => by
  obtain ⟨a1,a2⟩:=List.pairwise_cons.1 ha
  obtain ⟨b1,b2⟩:=List.pairwise_cons.1 hb
  have e : x = y:=by
   have h1:=(h x).1 (by simp)
   have h2:=(h y).2 (by simp)
   rw [List.mem_cons] at h1 h2
   rcases h1 with h1 | h1
   ·exact h1
   ·rcases h2 with h2 | h2
    ·exact h2.symm
    ·exact absurd (a1 y h2) (lb_asymm (b1 x h1))
  subst e
  rw [asc_ext a2 b2 (fun z => by
   have hz:=h z
   rw [List.mem_cons,List.mem_cons] at hz
   constructor
   ·intro hm
    rcases hz.1 (.inr hm) with e | e
    ·subst e;exact absurd (a1 z hm) (lb_irrefl z)
    ·exact e
   ·intro hm
    rcases hz.2 (.inr hm) with e | e
    ·subst e;exact absurd (b1 z hm) (lb_irrefl z)
    ·exact e)]
def putL (L : List LB) (s : LB) : List LB:=L.filter (fun x => decide (x < s)) ++ (s :: L.filter (fun x => decide (s < x)))
theorem putL_mem (L : List LB) (s x : LB) : x ∈ putL L s ↔ x ∈ L ∨ x = s:=by
 unfold putL
 rw [List.mem_append,List.mem_cons,List.mem_filter,List.mem_filter,decide_eq_true_iff,decide_eq_true_iff]
 constructor
 ·rintro (h | h | h)
  ·exact .inl h.1
  ·exact .inr h
  ·exact .inl h.1
 ·rintro (h | h)
  ·by_cases c : x < s
   ·exact .inl ⟨h,c⟩
   ·by_cases d : s < x
    ·exact .inr (.inr ⟨h,d⟩)
    ·exact .inr (.inl (lb_total c d))
  ·exact .inr (.inl h)
theorem putL_asc {L : List LB} (h : L.Pairwise (· < ·)) (s : LB) : (putL L s).Pairwise (· < ·):=by
 unfold putL
 refine List.pairwise_append.2 ⟨h.filter _,List.pairwise_cons.2 ⟨fun x hx => ?_,h.filter _⟩,fun x hx y hy => ?_⟩
 ·exact of_decide_eq_true (List.mem_filter.1 hx).2
 ·have h1 : x < s:=of_decide_eq_true (List.mem_filter.1 hx).2
  rw [List.mem_cons] at hy
  rcases hy with rfl | hy
  ·exact h1
  ·exact lb_trans h1 (of_decide_eq_true (List.mem_filter.1 hy).2)
theorem foldPut (l : List LB) : ∀ L : List LB,L.Pairwise (· < ·) → (l.foldl putL L).Pairwise (· < ·) ∧ ∀ x,x ∈ l.foldl putL L ↔ x ∈ L ∨ x ∈ l:=by
 induction l with
 | nil => intro L h;exact ⟨h,fun x => by simp⟩
 | cons s l ih =>
  intro L h
  obtain ⟨h1,h2⟩:=ih (putL L s) (putL_asc h s)
  refine ⟨h1,fun x => ?_⟩
  rw [List.foldl_cons,h2 x,putL_mem,List.mem_cons,or_assoc]
theorem sorted_ms (l : List LB) : (l.mergeSort fun x y => decide (x ≤ y)).Pairwise (fun x y => ¬ y < x):=by
 have h:=List.pairwise_mergeSort (le:=fun x y : LB => decide (x ≤ y)) (fun a b c h1 h2 => by
  simp only [decide_eq_true_iff] at h1 h2 ⊢
  exact List.le_trans h1 h2) (fun a b => by
  simp only [Bool.or_eq_true,decide_eq_true_iff]
  exact List.le_total a b) l
 exact h.imp (fun h => of_decide_eq_true h)
theorem compact_upto (zs : List LB) (hs : zs.Pairwise (fun x y => ¬ y < x)) : ∀ m,m ≤ zs.length → (Go.Lib.compactUpTo zs.toArray m).Pairwise (· < ·) ∧ ∀ x,x ∈ Go.Lib.compactUpTo zs.toArray m ↔ x ∈ zs.take m:=by
 intro m
 induction m with
 | zero => intro _;exact ⟨List.Pairwise.nil,fun x => by simp [Go.Lib.compactUpTo]⟩
 | succ m ih =>
  intro hm
  obtain ⟨i1,i2⟩:=ih (by omega)
  have hget : ∀ j (hj : j < zs.length),zs.toArray[j]! = zs[j]:=fun j hj => by simp [hj]
  have htk : zs.take (m + 1) = zs.take m ++ [zs[m]]:=by rw [List.take_add_one,List.getElem?_eq_getElem (by omega)];rfl
  have hpw:=List.pairwise_iff_getElem.1 hs
  rw [Go.Lib.compactUpTo_succ]
  by_cases hk : Go.Lib.keeps zs.toArray m = true
  ·rw [if_pos hk,hget m (by omega),htk]
   refine ⟨List.pairwise_append.2 ⟨i1,List.pairwise_singleton _ _,fun x hx y hy => ?_⟩,fun x => by rw [List.mem_append,List.mem_append,i2]⟩
   rw [List.mem_singleton] at hy
   subst hy
   have hx':=(i2 x).1 hx
   obtain ⟨j,hj,rfl⟩:=List.getElem_of_mem hx'
   rw [List.length_take] at hj
   rw [List.getElem_take]
   have hle : ¬ zs[m] < zs[j]:=hpw j m (by omega) (by omega) (by omega)
   by_cases c : zs[j] < zs[m]
   ·exact c
   ·exfalso
    have he : zs[j] = zs[m]:=lb_total c hle
    have h1 : ¬ zs[m - 1] < zs[j]:=by
     by_cases e : j = m - 1
     ·subst e;exact lb_irrefl _
     ·exact hpw j (m - 1) (by omega) (by omega) (by omega)
    have h2 : ¬ zs[m] < zs[m - 1]:=hpw (m - 1) m (by omega) (by omega) (by omega)
    rw [← he] at h2
    have h3 : zs[j] = zs[m - 1]:=lb_total h2 h1
    rw [Go.Lib.keeps_neg (by omega) (by rw [hget m (by omega),hget (m - 1) (by omega),← he,h3])] at hk
    cases hk
  ·rw [if_neg hk,List.append_nil,htk]
   refine ⟨i1,fun x => ?_⟩
   rw [i2,List.mem_append,List.mem_singleton]
   constructor
   ·exact .inl
   ·rintro (h | rfl)
    ·exact h
    ·have hm0 : m ≠ 0:=by
      rintro rfl
      exact hk (Go.Lib.keeps_lt_one _ 0 (by omega))
     have he : zs[m] = zs[m - 1]:=by
      by_cases c : zs[m] = zs[m - 1]
      ·exact c
      ·exact absurd (Go.Lib.keeps_pos (by rw [hget m (by omega),hget (m - 1) (by omega)];exact c)) hk
     rw [he,List.mem_take_iff_getElem]
     exact ⟨m - 1,by omega,rfl⟩
theorem sort_put (l : List LB) : Go.Lib.compact (l.mergeSort fun x y => decide (x ≤ y)) = l.foldl putL []:=by
 have h1:=compact_upto _ (sorted_ms l) _ (Nat.le_refl _)
 have h2:=foldPut l [] List.Pairwise.nil
 refine asc_ext h1.1 h2.1 (fun x => ?_)
 rw [h2.2 x]
 have:=h1.2 x
 rw [List.take_length] at this
 exact this.trans (by rw [List.mem_mergeSort];simp)
def small (c : Int) : Bool:=decide (97 ≤ c ∧ c ≤ 122)
def varNameB (s : ByteArray) : Bool:=(bs s).all small && decide (1 ≤ (s.size : Int) ∧ (s.size : Int) ≤ 4)
def kidIn (i : Nat) (c : Int) : Bool:=decide (0 ≤ c ∧ c ≤ (i : Int) - 1)
def kidsIn (i : Nat) (ks : List Int) : Bool:=ks.all (kidIn i)
theorem kidsIn_cons (i : Nat) (c : Int) (ks : List Int) : kidsIn i (c :: ks) = (kidIn i c && kidsIn i ks):=by simp [kidsIn]
theorem implKidsAhead_is (ks : List Int) (hl : ks.length ≤ 1048576) (i : Nat) (hi : i ≤ 9223372036854775807) (k : Nat) (hk : ks.length < k) : impl_kidsAhead.f k ks (i : Int) = some (kidsIn i ks):=by
 have go : ∀ (d k j : Nat),ks.length - j ≤ d → d < k → impl_kidsAhead.l0 k (i : Int) ks (ks.length : Int) (j : Int) = some (kidsIn i (ks.drop j)):=by
  intro d
  induction d with
  | zero =>
   intro k j hd hk
   obtain ⟨k,rfl⟩ : ∃ m,k = m + 1:=⟨k - 1,by omega⟩
   rw [impl_kidsAhead.l0,if_neg (by omega),List.drop_eq_nil_of_le (by omega)];rfl
  | succ d ih =>
   intro k j hd hk
   obtain ⟨k,rfl⟩ : ∃ m,k = m + 1:=⟨k - 1,by omega⟩
   by_cases hj : j < ks.length
   ·rw [impl_kidsAhead.l0,if_pos (by omega),if_pos (by omega),if_pos (by omega),rdInt ks j hj,within_is,Option.bind_some,w64 (n:=(i : Int) - 1) (by omega) (by omega),w64_len hj (by omega),ih k (j + 1) (by omega) (by omega),drop_get ks j hj,kidsIn_cons]
    rw [show decide (0 ≤ ks[j] ∧ ks[j] ≤ (i : Int) - 1) = kidIn i ks[j] from rfl]
    by_cases hc : kidIn i ks[j] = true
    ·rw [if_pos hc,hc,Bool.true_and]
    ·rw [if_neg hc,show kidIn i ks[j] = false from by simpa using hc,Bool.false_and]
   ·rw [impl_kidsAhead.l0,if_neg (by omega),List.drop_eq_nil_of_le (by omega)];rfl
 unfold impl_kidsAhead.f
 exact go ks.length k 0 (by omega) hk
theorem rdE (xs : List S147) (i : Nat) (h : i < xs.length) : rd_T147 xs (i : Int) = xs[i]:=by simp [rd_T147,List.getD,h]
def kidsOf (op : Int) : Int:=if op = 1 ∨ op = 2 ∨ op = 3 then 0 else if op = 11 then 1 else 2
def numOk (op num : Int) : Bool:=if op = 1 then decide (0 ≤ num ∧ num ≤ 99) else decide (num = 0)
def nameOk (op : Int) (s : ByteArray) : Bool:=if op = 2 then varNameB s else decide (s.toList = ([] : List UInt8))
def nodeB (i : Nat) (y : S147) : Bool:=decide (1 ≤ y.f0 ∧ y.f0 ≤ 11) && decide ((y.f3.length : Int) = kidsOf y.f0) && numOk y.f0 y.f1 && nameOk y.f0 y.f2 && kidsIn i y.f3
def nodesB : Nat → List S147 → Bool
 | _,[] => true
 | i,y :: l => nodeB i y && nodesB (i + 1) l
def exprOkB (xs : List S147) : Bool:=nodesB 0 xs && decide (1 ≤ (xs.length : Int) ∧ (xs.length : Int) ≤ 20)
def smallX (xs : List S147) : Prop:=xs.length ≤ 1048576 ∧ ∀ y ∈ xs,y.f2.size ≤ 1048576 ∧ y.f3.length ≤ 1048576
theorem bne_nil (s : ByteArray) : (s.toList != ([] : List UInt8)) = !decide (s.toList = ([] : List UInt8)):=by
 cases h : s.toList <;> simp
theorem specVarName_l0 (s : ByteArray) (hs : s.size ≤ 140737488351232) (d : Nat) : ∀ (k i : Nat),s.size - i ≤ d → d < k →
  spec_VarName.l0 k s (i : Int) = some (((bs s).drop i).all small && decide (1 ≤ (s.size : Int) ∧ (s.size : Int) ≤ 4)):=by
 induction d with
 | zero =>
  intro k i hd hk
  obtain ⟨k,rfl⟩ : ∃ m,k = m + 1:=⟨k - 1,by omega⟩
  simp only [spec_VarName.l0]
  rw [if_neg (by omega),l01In_is,bs_drop_nil s i (by omega)];simp
 | succ d ih =>
  intro k i hd hk
  obtain ⟨k,rfl⟩ : ∃ m,k = m + 1:=⟨k - 1,by omega⟩
  by_cases hi : i < s.size
  ·have e:=ih k (i + 1) (by omega) (by omega)
   simp only [spec_VarName.l0]
   rw [if_pos (by omega),if_pos (by omega),w64_succ hi hs,e,bs_drop s i hi]
   simp only [List.all_cons]
   by_cases h1 : bt s i < 97
   ·rw [if_pos h1,show small (bt s i) = false from by simp [small];omega];simp
   ·by_cases h2 : bt s i > 122
    ·rw [if_neg h1,if_pos h2,show small (bt s i) = false from by simp [small];omega];simp
    ·rw [if_neg h1,if_neg h2,show small (bt s i) = true from by simp [small];omega];simp
  ·simp only [spec_VarName.l0]
   rw [if_neg (by omega),l01In_is,bs_drop_nil s i (by omega)];simp
theorem specVarName_is (s : ByteArray) (hs : s.size ≤ 140737488351232) (k : Nat) (hk : s.size < k) : spec_VarName.f k s = some (varNameB s):=by
 unfold spec_VarName.f
 exact specVarName_l0 s hs s.size k 0 (by omega) hk
section
variable (xs : List S147) (hz : smallX xs) (i : Nat) (hi : i < xs.length) (op num : Int) (s : ByteArray) (hs : s.size ≤ 1048576) (ks : List Int) (hk : ks.length ≤ 1048576) (r : Bool)
theorem specExpr_l1 (hi : i < 9223372036854775807) (hk : ks.length ≤ 1048576) (hn : Ev (fun k => spec_ExprOk.l0 k (wrap64 ((i : Int) + 1)) xs) r) (d : Nat) : ∀ j : Nat,ks.length - j = d → j ≤ ks.length →
  Ev (fun k => spec_ExprOk.l1 k (i : Int) (j : Int) xs op num s ks) (if kidsIn i (ks.drop j) then r else false):=by
 induction d with
 | zero =>
  intro j hd hj
  rw [List.drop_eq_nil_of_le (show ks.length ≤ j by omega),if_pos (by rfl)]
  refine Ev.shift 1 (fun k => ?_) hn
  rw [spec_ExprOk.l1,if_neg (by omega)]
 | succ d ih =>
  intro j hd hj
  have hj2 : j < ks.length:=by omega
  have e:=ih (j + 1) (by omega) (by omega)
  rw [drop_get ks j hj2,kidsIn_cons]
  by_cases hc : kidIn i ks[j] = true
  ·rw [hc,Bool.true_and]
   refine Ev.shift 1 (fun k => ?_) e
   have hc2 : decide (0 ≤ ks[j] ∧ ks[j] ≤ (i : Int) - 1) = true:=hc
   rw [spec_ExprOk.l1,if_pos (by omega),if_pos (by omega),rdInt ks j hj2,l01In_is,Option.bind_some,w64 (n:=(i : Int) - 1) (by omega) (by omega),hc2,if_pos (show true = true from rfl),w64_len hj2 (by omega)]
  ·have hc' : kidIn i ks[j] = false:=by simpa using hc
   rw [hc',Bool.false_and,if_neg (by simp)]
   refine Ev.shift 1 (f:=fun _ => some false) (fun k => ?_) (Ev.now _)
   have hc2 : decide (0 ≤ ks[j] ∧ ks[j] ≤ (i : Int) - 1) = false:=hc'
   rw [spec_ExprOk.l1,if_pos (by omega),if_pos (by omega),rdInt ks j hj2,l01In_is,Option.bind_some,w64 (n:=(i : Int) - 1) (by omega) (by omega),hc2,if_neg (by simp)]
theorem specExpr_j2 (hi : i < 9223372036854775807) (hk : ks.length ≤ 1048576) (hn : Ev (fun k => spec_ExprOk.l0 k (wrap64 ((i : Int) + 1)) xs) r) (b : Bool) :
  Ev (fun k => spec_ExprOk.j2 k (i : Int) b xs op num s ks) (if !b && kidsIn i ks then r else false):=by
 cases b with
 | true =>
  refine Ev.shift 1 (f:=fun _ => some false) (fun k => ?_) (Ev.now _)
  rw [spec_ExprOk.j2,if_pos (show true = true from rfl)]
 | false =>
  have e:=specExpr_l1 xs i op num s ks r hi hk hn ks.length 0 (by omega) (by omega)
  rw [List.drop_zero] at e
  refine Ev.shift 1 (fun k => ?_) e
  rw [spec_ExprOk.j2,if_neg (by simp)];rfl
theorem specExpr_j1 (hi : i < 9223372036854775807) (hk : ks.length ≤ 1048576) (hs : s.size ≤ 1048576) (hn : Ev (fun k => spec_ExprOk.l0 k (wrap64 ((i : Int) + 1)) xs) r) (b : Bool) :
  Ev (fun k => spec_ExprOk.j1 k (i : Int) b xs op num s ks) (if !b && numOk op num && nameOk op s && kidsIn i ks then r else false):=by
 have J:=specExpr_j2 xs i op num s ks r hi hk hn
 have hv : Ev (fun k => spec_VarName.f k s) (varNameB s):=Ev.from s.size (fun k hk => specVarName_is s (by omega) k hk)
 cases b with
 | true =>
  refine Ev.shift 1 (f:=fun _ => some false) (fun k => ?_) (Ev.now _)
  rw [spec_ExprOk.j1,if_pos (show true = true from rfl)]
 | false =>
  have name : ∀ c : Bool,c = true → Ev (fun k => if op = 2 then ((spec_VarName.f k s).bind fun t => (if t = true then spec_ExprOk.j2 k (i : Int) false xs op num s ks else spec_ExprOk.j2 k (i : Int) true xs op num s ks)) else spec_ExprOk.j2 k (i : Int) (s.toList != ([] : List UInt8)) xs op num s ks) (if nameOk op s && kidsIn i ks then r else false):=by
   intro _ _
   by_cases h2 : op = 2
   ·refine Ev.congr (fun k => if_pos h2) (Ev.bind hv ?_)
    have hnm : nameOk op s = varNameB s:=by unfold nameOk;rw [if_pos h2]
    rw [hnm]
    by_cases hb : varNameB s = true
    ·rw [hb];exact Ev.congr (fun k => if_pos rfl) (J false)
    ·rw [show varNameB s = false from by simpa using hb];exact Ev.congr (fun k => if_neg (by simp)) (J true)
   ·refine Ev.congr (fun k => if_neg h2) ?_
    have hnm : nameOk op s = !(s.toList != ([] : List UInt8)):=by unfold nameOk;rw [if_neg h2,bne_nil,Bool.not_not]
    rw [hnm]
    exact J _
  by_cases h1 : op = 1
  ·have hnum : numOk op num = decide (0 ≤ num ∧ num ≤ 99):=by unfold numOk;rw [if_pos h1]
   refine Ev.shift 1 (f:=fun k => (spec_l01In.f num 0 99).bind fun t => (if t = true then (if op = 2 then ((spec_VarName.f k s).bind fun t => (if t = true then spec_ExprOk.j2 k (i : Int) false xs op num s ks else spec_ExprOk.j2 k (i : Int) true xs op num s ks)) else spec_ExprOk.j2 k (i : Int) (s.toList != ([] : List UInt8)) xs op num s ks) else spec_ExprOk.j2 k (i : Int) true xs op num s ks)) (fun k => ?_) ?_
   ·rw [spec_ExprOk.j1,if_neg (by simp),if_pos h1]
   ·rw [l01In_is,hnum]
    simp only [Option.bind_some,Bool.not_false,Bool.true_and]
    by_cases hb : decide (0 ≤ num ∧ num ≤ 99) = true
    ·rw [hb];exact Ev.congr (fun k => if_pos rfl) (name true rfl)
    ·rw [show decide (0 ≤ num ∧ num ≤ 99) = false from by simpa using hb];exact Ev.congr (fun k => if_neg (by simp)) (J true)
  ·have hnum : numOk op num = decide (num = 0):=by unfold numOk;rw [if_neg h1]
   by_cases h0 : num = 0
   ·refine Ev.shift 1 (f:=fun k => if op = 2 then ((spec_VarName.f k s).bind fun t => (if t = true then spec_ExprOk.j2 k (i : Int) false xs op num s ks else spec_ExprOk.j2 k (i : Int) true xs op num s ks)) else spec_ExprOk.j2 k (i : Int) (s.toList != ([] : List UInt8)) xs op num s ks) (fun k => ?_) ?_
    ·rw [spec_ExprOk.j1,if_neg (by simp),if_neg h1,if_pos h0]
    ·rw [hnum,show decide (num = 0) = true from decide_eq_true h0]
     exact name true rfl
   ·refine Ev.shift 1 (f:=fun k => spec_ExprOk.j2 k (i : Int) true xs op num s ks) (fun k => ?_) ?_
    ·rw [spec_ExprOk.j1,if_neg (by simp),if_neg h1,if_neg h0]
    ·rw [hnum,show decide (num = 0) = false from decide_eq_false h0]
     exact J true
end
theorem specKids_ev (op : Int) : Ev (fun k => spec_l04Kids.f k op) (kidsOf op):=by
 have j : ∀ b : Bool,Ev (fun k => spec_l04Kids.j0 k op b) (if b then 0 else if op = 11 then 1 else 2):=by
  intro b
  refine Ev.shift 1 (f:=fun _ => some (if b then 0 else if op = 11 then 1 else 2)) (fun k => ?_) (Ev.now _)
  rw [spec_l04Kids.j0]
  cases b <;> simp
  split <;> rfl
 unfold spec_l04Kids.f kidsOf
 by_cases h1 : op = 1
 ·rw [if_pos (.inl h1)]
  have e:=j (op == 1)
  rw [show (op == 1) = true from by simpa using h1] at e
  exact Ev.congr (fun k => by rw [if_pos h1,show (op == 1) = true from by simpa using h1]) e
 ·by_cases h2 : op = 2
  ·rw [if_pos (.inr (.inl h2))]
   have e:=j (op == 2)
   rw [show (op == 2) = true from by simpa using h2] at e
   exact Ev.congr (fun k => by rw [if_neg h1,if_pos h2,show (op == 2) = true from by simpa using h2]) e
  ·by_cases h3 : op = 3
   ·rw [if_pos (.inr (.inr h3))]
    have e:=j (op == 3)
    rw [show (op == 3) = true from by simpa using h3] at e
    exact Ev.congr (fun k => by rw [if_neg h1,if_neg h2,show (op == 3) = true from by simpa using h3]) e
   ·rw [if_neg (by rintro (h | h | h) <;> contradiction)]
    have e:=j (op == 3)
    rw [show (op == 3) = false from by simpa using h3] at e
    exact Ev.congr (fun k => by rw [if_neg h1,if_neg h2,show (op == 3) = false from by simpa using h3]) e
theorem specExpr_l0 (xs : List S147) (hz : smallX xs) (d : Nat) : ∀ i : Nat,xs.length - i = d → i ≤ xs.length →
  Ev (fun k => spec_ExprOk.l0 k (i : Int) xs) (nodesB i (xs.drop i) && decide (1 ≤ (xs.length : Int) ∧ (xs.length : Int) ≤ 20)):=by
 have hl:=hz.1
 induction d with
 | zero =>
  intro i hd hi
  refine Ev.shift 1 (f:=fun _ => some _) (fun k => ?_) (Ev.now _)
  rw [spec_ExprOk.l0,if_neg (by omega),List.drop_eq_nil_of_le (by omega),l01In_is];rfl
 | succ d ih =>
  intro i hd hi
  have hi2 : i < xs.length:=by omega
  have e:=ih (i + 1) (by omega) (by omega)
  have hy:=hz.2 _ (List.getElem_mem hi2)
  rw [← w64_len hi2 (by omega)] at e
  have J:=specExpr_j1 xs i xs[i].f0 xs[i].f1 xs[i].f2 xs[i].f3 _ (by omega) hy.2 hy.1 e
  rw [drop_get xs i hi2]
  refine Ev.shift 1 (f:=fun k => (spec_l01In.f xs[i].f0 1 11).bind fun t => (if t = true then ((spec_l04Kids.f k xs[i].f0).bind fun t2 => (spec_ExprOk.j1 k (i : Int) (((xs[i].f3.length : Int)) != t2) xs xs[i].f0 xs[i].f1 xs[i].f2 xs[i].f3)) else (spec_ExprOk.j1 k (i : Int) true xs xs[i].f0 xs[i].f1 xs[i].f2 xs[i].f3))) (fun k => ?_) ?_
  ·rw [spec_ExprOk.l0,if_pos (by omega),if_pos (by omega),rdE xs i hi2]
  ·rw [l01In_is]
   simp only [Option.bind_some]
   have hgoal : (nodesB i (xs[i] :: xs.drop (i + 1)) && decide (1 ≤ (xs.length : Int) ∧ (xs.length : Int) ≤ 20)) = (if nodeB i xs[i] then nodesB (i + 1) (xs.drop (i + 1)) && decide (1 ≤ (xs.length : Int) ∧ (xs.length : Int) ≤ 20) else false):=by
    simp only [nodesB];cases nodeB i xs[i] <;> simp
   rw [hgoal]
   by_cases hr : decide (1 ≤ xs[i].f0 ∧ xs[i].f0 ≤ 11) = true
   ·refine Ev.congr (fun k => if_pos hr) (Ev.bind (specKids_ev _) ?_)
    have j:=J ((xs[i].f3.length : Int) != kidsOf xs[i].f0)
    have hb : nodeB i xs[i] = (!((xs[i].f3.length : Int) != kidsOf xs[i].f0) && numOk xs[i].f0 xs[i].f1 && nameOk xs[i].f0 xs[i].f2 && kidsIn i xs[i].f3):=by
     unfold nodeB
     rw [hr,Bool.true_and]
     congr 3
     by_cases hq : (xs[i].f3.length : Int) = kidsOf xs[i].f0 <;> simp [hq]
    rw [hb]
    exact j
   ·refine Ev.congr (fun k => if_neg hr) ?_
    have hb : nodeB i xs[i] = false:=by unfold nodeB;rw [show decide (1 ≤ xs[i].f0 ∧ xs[i].f0 ≤ 11) = false from by simpa using hr];simp
    rw [hb]
    exact J true
theorem specExprOk_ev (xs : List S147) (hz : smallX xs) : Ev (fun k => spec_ExprOk.f k xs) (exprOkB xs) :=
 specExpr_l0 xs hz xs.length 0 (by omega) (by omega)
theorem isSmall_is (s : ByteArray) (i : Int) : impl_isSmall.f (bt s i) = some (decide (97 ≤ bt s i ∧ bt s i ≤ 122)):=by
 unfold impl_isSmall.f
 rw [w64_bt,within_is];rfl
theorem implVarName_l0 (s : ByteArray) (hs : s.size ≤ 140737488351232) (d : Nat) : ∀ (k i : Nat),s.size - i ≤ d → d < k →
  impl_VarName.l0 k s (s.size : Int) (i : Int) = some (((bs s).drop i).all small && decide (1 ≤ (s.size : Int) ∧ (s.size : Int) ≤ 4)):=by
 induction d with
 | zero =>
  intro k i hd hk
  obtain ⟨k,rfl⟩ : ∃ m,k = m + 1:=⟨k - 1,by omega⟩
  simp only [impl_VarName.l0]
  rw [if_neg (by omega),within_is,bs_drop_nil s i (by omega)];simp
 | succ d ih =>
  intro k i hd hk
  obtain ⟨k,rfl⟩ : ∃ m,k = m + 1:=⟨k - 1,by omega⟩
  by_cases hi : i < s.size
  ·have e:=ih k (i + 1) (by omega) (by omega)
   simp only [impl_VarName.l0]
   rw [if_pos (by omega),if_pos (by omega),if_pos (by omega),isSmall_is,Option.bind_some,w64_succ hi hs,e,bs_drop s i hi]
   simp only [List.all_cons]
   by_cases h1 : 97 ≤ bt s i ∧ bt s i ≤ 122
   ·rw [if_pos (by simpa using h1),show small (bt s i) = true from by simp [small];omega];simp
   ·rw [if_neg (by simpa using h1),show small (bt s i) = false from by simp [small];omega];simp
  ·simp only [impl_VarName.l0]
   rw [if_neg (by omega),within_is,bs_drop_nil s i (by omega)];simp
theorem implVarName_is (s : ByteArray) (hs : s.size ≤ 140737488351232) (k : Nat) (hk : s.size < k) : impl_VarName.f k s = some (varNameB s):=by
 unfold impl_VarName.f
 exact implVarName_l0 s hs s.size k 0 (by omega) hk
theorem implKidCount_is (op : Int) : impl_kidCount.f op = some (if 1 ≤ op ∧ op ≤ 11 then kidsOf op else -1):=by
 unfold impl_kidCount.f kidsOf
 rw [within_is,Option.bind_some]
 by_cases h1 : 1 ≤ op ∧ op ≤ 3
 ·rw [if_pos (decide_eq_true h1),if_pos (by omega),if_pos (by omega)]
 ·rw [if_neg (by simpa using h1),within_is,Option.bind_some]
  by_cases h2 : 4 ≤ op ∧ op ≤ 10
  ·rw [if_pos (decide_eq_true h2),if_pos (by omega),if_neg (by omega),if_neg (by omega)]
  ·rw [if_neg (by simpa using h2)]
   by_cases h3 : op = 11
   ·rw [if_pos h3,if_pos (by omega),if_neg (by omega),if_pos h3]
   ·rw [if_neg h3,if_neg (by omega)]
theorem implNode_j0 (op num : Int) (s : ByteArray) (hs : s.size ≤ 1048576) (ks : List Int) (b : Bool) (k : Nat) (hk : 1048577 < k) :
  impl_exNodeOk.j0 k b op num s ks = some (!b && numOk op num && nameOk op s):=by
 obtain ⟨k,rfl⟩ : ∃ m,k = m + 1:=⟨k - 1,by omega⟩
 rw [impl_exNodeOk.j0]
 cases b with
 | true => rw [if_pos (show true = true from rfl)];rfl
 | false =>
  rw [if_neg (by simp),implVarName_is s (by omega) k (by omega),within_is]
  simp only [Option.bind_some,Bool.not_false,Bool.true_and]
  unfold numOk nameOk
  by_cases h2 : op = 2
  ·have h1 : ¬ op = 1:=by omega
   by_cases h0 : num = 0
   ·by_cases he : s.toList = ([] : List UInt8)
    ·simp [h2,h0,he]
    ·simp [h2,h0,he]
   ·by_cases he : s.toList = ([] : List UInt8)
    ·simp [h2,h0,he]
    ·simp [h2,h0,he]
  ·by_cases h1 : op = 1
   ·by_cases h0 : num = 0
    ·by_cases he : s.toList = ([] : List UInt8)
     ·simp [h1,h0,he]
     ·simp [h1,h0,he]
    ·by_cases he : s.toList = ([] : List UInt8)
     ·by_cases hr : 0 ≤ num ∧ num ≤ 99
      ·simp [h1,h0,he,hr]
      ·simp [h1,h0,he,if_neg hr];intro h;omega
     ·by_cases hr : 0 ≤ num ∧ num ≤ 99
      ·simp [h1,h0,he]
      ·simp [h1,h0,he]
   ·by_cases h0 : num = 0
    ·by_cases he : s.toList = ([] : List UInt8)
     ·simp [h1,h2,h0,he]
     ·simp [h1,h2,h0,he]
    ·by_cases he : s.toList = ([] : List UInt8)
     ·simp [h1,h2,h0,he]
     ·simp [h1,h2,h0,he]
theorem implNode_is (i : Nat) (hi : i ≤ 1048576) (y : S147) (hy : y.f2.size ≤ 1048576 ∧ y.f3.length ≤ 1048576) (k : Nat) (hk : 1048577 < k) : impl_exNodeOk.f k y.f0 y.f1 y.f2 y.f3 (i : Int) = some (nodeB i y):=by
 unfold impl_exNodeOk.f nodeB
 rw [implKidCount_is,Option.bind_some]
 by_cases hr : 1 ≤ y.f0 ∧ y.f0 ≤ 11
 ·rw [if_pos hr,show decide (1 ≤ y.f0 ∧ y.f0 ≤ 11) = true from decide_eq_true hr,Bool.true_and]
  by_cases hq : (y.f3.length : Int) = kidsOf y.f0
  ·rw [if_pos hq,implKidsAhead_is y.f3 hy.2 i (by omega) k (by omega),Option.bind_some,implNode_j0 _ _ _ hy.1 _ _ k hk,show decide ((y.f3.length : Int) = kidsOf y.f0) = true from decide_eq_true hq]
   congr 1
   cases kidsIn i y.f3 <;> simp
  ·rw [if_neg hq,implNode_j0 _ _ _ hy.1 _ _ k hk,show decide ((y.f3.length : Int) = kidsOf y.f0) = false from decide_eq_false hq];simp
 ·rw [if_neg hr,show decide (1 ≤ y.f0 ∧ y.f0 ≤ 11) = false from decide_eq_false hr,if_neg (by omega),implNode_j0 _ _ _ hy.1 _ _ k hk];simp
theorem implExprOk_is (xs : List S147) (hz : smallX xs) (k : Nat) (hk : xs.length + 1048578 < k) : impl_ExprOk.f k xs = some (exprOkB xs):=by
 have hl:=hz.1
 have go : ∀ (d k i : Nat),xs.length - i ≤ d → d + 1048578 < k → impl_ExprOk.l0 k xs (xs.length : Int) (i : Int) xs = some (nodesB i (xs.drop i) && decide (1 ≤ (xs.length : Int) ∧ (xs.length : Int) ≤ 20)):=by
  intro d
  induction d with
  | zero =>
   intro k i hd hk
   obtain ⟨k,rfl⟩ : ∃ m,k = m + 1:=⟨k - 1,by omega⟩
   rw [impl_ExprOk.l0,if_neg (by omega),List.drop_eq_nil_of_le (by omega),within_is];rfl
  | succ d ih =>
   intro k i hd hk
   obtain ⟨k,rfl⟩ : ∃ m,k = m + 1:=⟨k - 1,by omega⟩
   by_cases hi : i < xs.length
   ·have hy:=hz.2 _ (List.getElem_mem hi)
    rw [impl_ExprOk.l0,if_pos (by omega),if_pos (by omega),if_pos (by omega),rdE xs i hi,implNode_is i (by omega) _ hy k (by omega),Option.bind_some,w64_len hi (by omega),ih k (i + 1) (by omega) (by omega),drop_get xs i hi]
    simp only [nodesB]
    cases nodeB i xs[i] <;> simp
   ·rw [impl_ExprOk.l0,if_neg (by omega),List.drop_eq_nil_of_le (by omega),within_is];rfl
 unfold impl_ExprOk.f
 exact go xs.length k 0 (by omega) (by omega)
def names (xs : List S147) : List ByteArray:=xs.filterMap fun x => if x.f0 = 2 then some x.f2 else none
def putS (L : List ByteArray) (s : ByteArray) : List ByteArray:=L.filter (fun x => decide (x.data.toList < s.data.toList)) ++ (s :: L.filter (fun x => decide (s.data.toList < x.data.toList)))
theorem putS_map (L : List ByteArray) (s : ByteArray) : (putS L s).map SSrt.s2l = putL (L.map SSrt.s2l) (SSrt.s2l s):=by
 unfold putS putL
 rw [List.map_append,List.map_cons,List.filter_map,List.filter_map]
 rfl
theorem fold_map (N : List ByteArray) : ∀ L : List ByteArray,(N.foldl putS L).map SSrt.s2l = (N.map SSrt.s2l).foldl putL (L.map SSrt.s2l):=by
 induction N with
 | nil => intro L;rfl
 | cons s N ih => intro L;rw [List.foldl_cons,ih,List.map_cons,List.foldl_cons,putS_map]
theorem map_id2 (L : List ByteArray) : (L.map SSrt.s2l).map SSrt.l2s = L:=by
 rw [List.map_map]
 conv => rhs;rw [← List.map_id L]
 exact List.map_congr_left fun x _ => SSrt.l2s_s2l x
theorem map_id3 (L : List (List UInt8)) : (L.map SSrt.l2s).map SSrt.s2l = L:=by
 rw [List.map_map]
 conv => rhs;rw [← List.map_id L]
 exact List.map_congr_left fun x _ => SSrt.s2l_l2s x
theorem sorted_put (N : List ByteArray) : SSrt.scomp (SSrt.ssort N) = N.foldl putS []:=by
 unfold SSrt.scomp SSrt.ssort
 rw [map_id3,sort_put,← map_id2 (N.foldl putS []),fold_map]
 rfl
theorem w64_q {i n : Nat} (h : i < n) (hn : n ≤ 100000000) : wrap64 ((i : Int) + 1) = ((i + 1 : Nat) : Int):=by rw [w64 (by omega) (by omega)];omega
theorem less_is (x y : ByteArray) : Op.bytesLess x.toList y.toList = decide (x.data.toList < y.data.toList):=by
 rw [ByteArray.toList_eq,ByteArray.toList_eq]
 exact Go.Proofs.bytesLess_eq _ _
theorem rdSt (xs : List ByteArray) (i : Nat) (h : i < xs.length) : rdOf ByteArray.empty xs (i : Int) = xs[i]:=by
 unfold rdOf
 rw [Int.toNat_natCast,List.getD_eq_getElem?_getD,List.getElem?_eq_getElem h,Option.getD_some]
theorem put_l1 (L : List ByteArray) (hL : L.length ≤ 1000) (s : ByteArray) (d : Nat) : ∀ (k i : Nat) (acc : List ByteArray),L.length - i = d → d < k → i ≤ L.length → acc.length ≤ 5000 + i → spec_l03Put.l1 k L s acc (i : Int) = some (acc ++ (L.drop i).filter (fun x => decide (s.data.toList < x.data.toList))):=by
 induction d with
 | zero =>
  intro k i acc hd hk hi ha
  obtain ⟨k,rfl⟩ : ∃ m,k = m + 1:=⟨k - 1,by omega⟩
  rw [spec_l03Put.l1,if_neg (by omega),List.drop_eq_nil_of_le (by omega)]
  simp
 | succ d ih =>
  intro k i acc hd hk hi ha
  obtain ⟨k,rfl⟩ : ∃ m,k = m + 1:=⟨k - 1,by omega⟩
  have hlt : i < L.length:=by omega
  rw [spec_l03Put.l1,if_pos (by omega),if_pos (by omega),rdSt L i hlt,less_is,w64_q hlt (by omega),List.drop_eq_getElem_cons hlt,List.filter_cons]
  by_cases c : decide (s.data.toList < L[i].data.toList) = true
  ·rw [if_pos c,if_pos c,if_pos (by omega),ih k (i + 1) _ (by omega) (by omega) (by omega) (by rw [List.length_append,List.length_singleton];omega),List.append_assoc]
   rfl
  ·rw [if_neg c,if_neg c,ih k (i + 1) _ (by omega) (by omega) (by omega) (by omega)]
theorem put_l0 (L : List ByteArray) (hL : L.length ≤ 1000) (s : ByteArray) (d : Nat) : ∀ (k i : Nat) (acc : List ByteArray),L.length - i = d → d + L.length + 5 < k → i ≤ L.length → acc.length ≤ i → spec_l03Put.l0 k L s acc (i : Int) = some (acc ++ ((L.drop i).filter (fun x => decide (x.data.toList < s.data.toList)) ++ (s :: L.filter (fun x => decide (s.data.toList < x.data.toList))))):=by
 induction d with
 | zero =>
  intro k i acc hd hk hi ha
  obtain ⟨k,rfl⟩ : ∃ m,k = m + 1:=⟨k - 1,by omega⟩
  have h1:=put_l1 L hL s L.length k 0 (acc ++ [s]) (by omega) (by omega) (by omega) (by rw [List.length_append,List.length_singleton];omega)
  rw [spec_l03Put.l0,if_neg (by omega),if_pos (by omega),List.drop_eq_nil_of_le (by omega),List.filter_nil,List.nil_append]
  rw [show ((0 : Nat) : Int) = 0 from rfl,List.drop_zero,List.append_assoc] at h1
  exact h1
 | succ d ih =>
  intro k i acc hd hk hi ha
  obtain ⟨k,rfl⟩ : ∃ m,k = m + 1:=⟨k - 1,by omega⟩
  have hlt : i < L.length:=by omega
  rw [spec_l03Put.l0,if_pos (by omega),if_pos (by omega),rdSt L i hlt,less_is,w64_q hlt (by omega),List.drop_eq_getElem_cons hlt,List.filter_cons]
  by_cases c : decide (L[i].data.toList < s.data.toList) = true
  ·rw [if_pos c,if_pos c,if_pos (by omega),ih k (i + 1) _ (by omega) (by omega) (by omega) (by rw [List.length_append,List.length_singleton];omega),List.append_assoc]
   rfl
  ·rw [if_neg c,if_neg c,ih k (i + 1) _ (by omega) (by omega) (by omega) (by omega)]
theorem put_is (L : List ByteArray) (hL : L.length ≤ 1000) (s : ByteArray) (k : Nat) (hk : 2 * L.length + 5 < k) : spec_l03Put.f k L s = some (putS L s):=by
 have h:=put_l0 L hL s L.length k 0 [] (by omega) (by omega) (by omega) (by simp)
 exact h
theorem two_filters (s : List UInt8) (L : List ByteArray) : (L.filter (fun x : ByteArray => decide (x.data.toList < s))).length + (L.filter (fun x : ByteArray => decide (s < x.data.toList))).length ≤ L.length:=by
 induction L with
 | nil => simp
 | cons x L ih =>
  rw [List.filter_cons,List.filter_cons]
  by_cases c : x.data.toList < s
  ·rw [decide_eq_true c,if_pos rfl,decide_eq_false (lb_asymm c),if_neg (by simp)]
   simp only [List.length_cons];omega
  ·rw [decide_eq_false c,if_neg (by simp)]
   split <;> simp only [List.length_cons] <;> omega
theorem putS_length (L : List ByteArray) (s : ByteArray) : (putS L s).length ≤ L.length + 1:=by
 unfold putS
 have h:=two_filters s.data.toList L
 rw [List.length_append,List.length_cons]
 omega
theorem rdEN (xs : List S147) (i : Nat) (h : i < xs.length) : rd_T147 xs (i : Int) = xs[i]:=by simp [rd_T147,List.getD,h]
theorem names_cons (x : S147) (l : List S147) : names (x :: l) = if x.f0 = 2 then x.f2 :: names l else names l:=by
 unfold names
 rw [List.filterMap_cons]
 by_cases h : x.f0 = 2
 ·rw [if_pos h,if_pos h]
 ·rw [if_neg h,if_neg h]
theorem specFree_l0 (xs : List S147) (hl : xs.length ≤ 20) (d : Nat) : ∀ (k i : Nat) (L : List ByteArray),xs.length - i = d → i ≤ xs.length → L.length ≤ i → d + 1000 ≤ k → spec_FreeOf.l0 k L (i : Int) xs = some ((names (xs.drop i)).foldl putS L):=by
 induction d with
 | zero =>
  intro k i L hd hi hL hk
  obtain ⟨k,rfl⟩ : ∃ m,k = m + 1:=⟨k - 1,by omega⟩
  rw [spec_FreeOf.l0,if_neg (by omega),List.drop_eq_nil_of_le (by omega)]
  rfl
 | succ d ih =>
  intro k i L hd hi hL hk
  obtain ⟨k,rfl⟩ : ∃ m,k = m + 1:=⟨k - 1,by omega⟩
  have hlt : i < xs.length:=by omega
  rw [spec_FreeOf.l0,if_pos (by omega),if_pos (by omega),rdEN xs i hlt,w64_q hlt (by omega),List.drop_eq_getElem_cons hlt,names_cons]
  by_cases c : xs[i].f0 = 2
  ·have:=putS_length L xs[i].f2
   rw [if_pos c,if_pos c,put_is L (by omega) _ k (by omega),Option.bind_some,ih k (i + 1) _ (by omega) (by omega) (by omega) (by omega)]
   rfl
  ·rw [if_neg c,if_neg c,ih k (i + 1) _ (by omega) (by omega) (by omega) (by omega)]
theorem implFree_l0 (xs : List S147) (hl : xs.length ≤ 20) (d : Nat) : ∀ (k i : Nat) (L : List ByteArray),xs.length - i = d → i ≤ xs.length → L.length ≤ i → d + 10 ≤ k → impl_FreeOf.l0 k L xs (xs.length : Int) (i : Int) = some (SSrt.scomp (SSrt.ssort (L ++ names (xs.drop i)))):=by
 induction d with
 | zero =>
  intro k i L hd hi hL hk
  obtain ⟨k,rfl⟩ : ∃ m,k = m + 1:=⟨k - 1,by omega⟩
  rw [impl_FreeOf.l0,if_neg (by omega),List.drop_eq_nil_of_le (by omega)]
  unfold slices_Sort_string_string.f slices_Compact_string_string.f
  rw [if_pos (by omega),Option.bind_some,if_pos (by rw [SSrt.ssort_length];omega),Option.bind_some]
  have : names [] = []:=rfl
  rw [this,List.append_nil]
 | succ d ih =>
  intro k i L hd hi hL hk
  obtain ⟨k,rfl⟩ : ∃ m,k = m + 1:=⟨k - 1,by omega⟩
  have hlt : i < xs.length:=by omega
  rw [impl_FreeOf.l0,if_pos (by omega),if_pos (by omega),if_pos (by omega),rdEN xs i hlt,w64_q hlt (by omega),List.drop_eq_getElem_cons hlt,names_cons]
  by_cases c : xs[i].f0 = 2
  ·rw [if_pos c,if_pos c,if_pos (by omega),ih k (i + 1) _ (by omega) (by omega) (by rw [List.length_append,List.length_singleton];omega) (by omega),List.append_assoc]
   rfl
  ·rw [if_neg c,if_neg c,ih k (i + 1) _ (by omega) (by omega) (by omega) (by omega)]
def freeR (xs : List S147) : List ByteArray:=if exprOkB xs = true then (names xs).foldl putS [] else []
theorem okB_len {xs : List S147} (h : exprOkB xs = true) : xs.length ≤ 20:=by
 unfold exprOkB at h
 rw [Bool.and_eq_true] at h
 have:=of_decide_eq_true h.2
 omega
theorem specFree_ev (xs : List S147) (hz : smallX xs) : Ev (fun k => spec_FreeOf.f k xs) (freeR xs):=by
 unfold spec_FreeOf.f freeR
 refine Ev.congr (fun k => Option.bind_some _ _) (Ev.bind (specExprOk_ev xs hz) ?_)
 by_cases h : exprOkB xs = true
 ·rw [if_pos h]
  refine Ev.congr (fun k => if_pos h) (Ev.from 2000 fun k hk => ?_)
  exact specFree_l0 xs (okB_len h) xs.length k 0 [] (by omega) (by omega) (by simp) (by have:=okB_len h;omega)
 ·rw [if_neg h]
  exact Ev.congr (f:=fun _ => some []) (fun k => if_neg h) (Ev.now _)
theorem implFree_ev (xs : List S147) (hz : smallX xs) : Ev (fun k => impl_FreeOf.f k xs) (freeR xs):=by
 unfold impl_FreeOf.f freeR
 refine Ev.congr (fun k => Option.bind_some _ _) (Ev.bind (Ev.from (xs.length + 1048578) (implExprOk_is _ hz)) ?_)
 by_cases h : exprOkB xs = true
 ·rw [if_pos h,← sorted_put]
  refine Ev.congr (fun k => if_pos h) (Ev.from 2000 fun k hk => ?_)
  exact implFree_l0 xs (okB_len h) xs.length k 0 [] (by omega) (by omega) (by simp) (by have:=okB_len h;omega)
 ·rw [if_neg h]
  exact Ev.congr (f:=fun _ => some []) (fun k => if_neg h) (Ev.now _)
theorem freeR_len (xs : List S147) : (freeR xs).length ≤ 20:=by
 unfold freeR
 split
 ·rename_i h
  have hl:=okB_len h
  have go : ∀ (N : List ByteArray) (L : List ByteArray),(N.foldl putS L).length ≤ L.length + N.length:=by
   intro N
   induction N with
   | nil => intro L;exact Nat.le_refl _
   | cons s N ih =>
    intro L
    have h1:=ih (putS L s)
    have h2:=putS_length L s
    rw [List.foldl_cons,List.length_cons]
    omega
  have h1:=go (names xs) []
  have h2 : (names xs).length ≤ xs.length:=List.length_filterMap_le _ _
  simp only [List.length_nil] at h1
  omega
 ·simp
theorem has_iff (ns : List ByteArray) (v : ByteArray) : impl_EnvOnly.has ns v = true ↔ v ∈ ns:=by
 unfold impl_EnvOnly.has
 rw [List.any_eq_true]
 constructor
 ·rintro ⟨y,hy,e⟩
  have e:=toList_eq.1 (eq_of_beq e)
  subst e;exact hy
 ·exact fun h => ⟨v,h,beq_self_eq_true _⟩
theorem index_l0 (K : List ByteArray) (hK : K.length ≤ 1048576) (s : ByteArray) (d : Nat) : ∀ i : Nat,K.length - i = d → i ≤ K.length →
  ∃ r,Ev (fun k => slices_Index_string_string.l0 k K s (K.length : Int) (i : Int)) r ∧ (r ≥ 0 ↔ s ∈ K.drop i):=by
 induction d with
 | zero =>
  intro i hd hi
  refine ⟨-1,Ev.shift 1 (f:=fun _ => some (-1)) (fun k => by rw [slices_Index_string_string.l0,if_neg (by omega)]) (Ev.now _),?_⟩
  rw [List.drop_eq_nil_of_le (by omega)]
  simp
 | succ d ih =>
  intro i hd hi
  have hlt : i < K.length:=by omega
  rw [drop_get K i hlt,List.mem_cons]
  by_cases c : s.toList = K[i].toList
  ·refine ⟨(i : Int),Ev.shift 1 (f:=fun _ => some (i : Int)) (fun k => by rw [slices_Index_string_string.l0,if_pos (by omega),if_pos (by omega),if_pos (by omega),rdStr K i hlt,if_pos c]) (Ev.now _),?_⟩
   exact ⟨fun _ => .inl (toList_eq.1 c),fun _ => by omega⟩
  ·obtain ⟨r,e,h⟩:=ih (i + 1) (by omega) (by omega)
   refine ⟨r,Ev.shift 1 (fun k => by rw [slices_Index_string_string.l0,if_pos (by omega),if_pos (by omega),if_pos (by omega),rdStr K i hlt,if_neg c,w64_len hlt (by omega)]) e,h.trans ⟨.inr,fun q => q.resolve_left (fun e => c (by rw [e]))⟩⟩
theorem contains_ev (K : List ByteArray) (hK : K.length ≤ 1048576) (s : ByteArray) : Ev (fun k => slices_Contains_string_string.f k K s) (impl_EnvOnly.has K s):=by
 obtain ⟨r,e,h⟩:=index_l0 K hK s K.length 0 (by omega) (by omega)
 rw [List.drop_zero] at h
 refine Ev.bind e (Ev.congr (f:=fun _ => some (impl_EnvOnly.has K s)) (fun k => ?_) (Ev.now _))
 congr 1
 cases c : impl_EnvOnly.has K s with
 | true => exact decide_eq_true (h.2 ((has_iff K s).1 c))
 | false => exact decide_eq_false fun q => by rw [(has_iff K s).2 (h.1 q)] at c;cases c
theorem in_ev (K : List ByteArray) (hK : K.length ≤ 1048576) (s : ByteArray) : Ev (fun k => spec_l03In.f k K s) (impl_EnvOnly.has K s):=Ev.from K.length fun k hk => l03In_is K s (by omega) k hk
def RelK (S I : List ByteArray) : Prop:=(∀ x,x ∈ S ↔ x ∈ I) ∧ S.length = I.length ∧ S.length ≤ 6
theorem RelK.self {S : List ByteArray} (h : S.length ≤ 6) : RelK S S:=⟨fun _ => Iff.rfl,rfl,h⟩
theorem RelK.dec {S I : List ByteArray} (h : RelK S I) (x : ByteArray) : impl_EnvOnly.has S x = impl_EnvOnly.has I x:=Bool.eq_iff_iff.2 (((has_iff S x).trans (h.1 x)).trans (has_iff I x).symm)
theorem known_l0 {S I : List ByteArray} (h : RelK S I) (xs : List S147) (hx : smallX xs) (args : List S123) (j : Nat) (N : List ByteArray) (hN : N.length ≤ 20) (d : Nat) : ∀ i : Nat,N.length - i = d → i ≤ N.length →
  ∃ b,Ev (fun k => spec_l06Known.l0 k S N (i : Int) xs) b ∧ ∀ c,Ev (fun k => impl_argsKnown.l0 k I args (args.length : Int) (wrap64 ((j : Int) + 1))) c → Ev (fun k => impl_argsKnown.l1 k I args (args.length : Int) (j : Int) N (N.length : Int) (i : Int) xs) (b && c):=by
 have h1:=h.2.1
 have h2:=h.2.2
 induction d with
 | zero =>
  intro i hd hi
  have eI : Ev (fun k => impl_ExprOk.f k xs) (exprOkB xs):=Ev.from (xs.length + 1048578) (implExprOk_is xs hx)
  refine ⟨exprOkB xs,Ev.shift 1 (fun k => by rw [spec_l06Known.l0,if_neg (by omega)]) (Ev.bind (specExprOk_ev xs hx) (Ev.now _)),fun c hc => ?_⟩
  refine Ev.shift 1 (fun k => by rw [impl_argsKnown.l1,if_neg (by omega)]) (Ev.bind eI ?_)
  cases exprOkB xs with
  | true => rw [Bool.true_and];exact Ev.congr (fun k => if_pos rfl) hc
  | false => exact Ev.congr (f:=fun _ => some false) (fun k => if_neg (by simp)) (Ev.now _)
 | succ d ih =>
  intro i hd hi
  have hlt : i < N.length:=by omega
  have e1:=in_ev S (by omega) N[i]
  have e2:=contains_ev I (by omega) N[i]
  rw [← h.dec] at e2
  by_cases m : impl_EnvOnly.has S N[i] = true
  ·obtain ⟨b,s1,s2⟩:=ih (i + 1) (by omega) (by omega)
   refine ⟨b,Ev.shift 1 (fun k => by rw [spec_l06Known.l0,if_pos (by omega),if_pos (by omega),rdStr N i hlt]) (Ev.bind e1 ?_),fun c hc => Ev.shift 1 (fun k => by rw [impl_argsKnown.l1,if_pos (by omega),if_pos (by omega),if_pos (by omega),rdStr N i hlt]) (Ev.bind e2 ?_)⟩
   ·exact Ev.congr (fun k => by rw [if_pos m,w64_len hlt (by omega)]) s1
   ·exact Ev.congr (fun k => by rw [if_pos m,w64_len hlt (by omega)]) (s2 c hc)
  ·refine ⟨false,Ev.shift 1 (fun k => by rw [spec_l06Known.l0,if_pos (by omega),if_pos (by omega),rdStr N i hlt]) (Ev.bind e1 ?_),fun c hc => Ev.shift 1 (fun k => by rw [impl_argsKnown.l1,if_pos (by omega),if_pos (by omega),if_pos (by omega),rdStr N i hlt]) (Ev.bind e2 ?_)⟩
   ·exact Ev.congr (f:=fun _ => some false) (fun k => if_neg m) (Ev.now _)
   ·exact Ev.congr (f:=fun _ => some false) (fun k => if_neg m) (Ev.now _)
theorem rdAE (xs : List S123) (i : Nat) (h : i < xs.length) : rd_T123 xs (i : Int) = xs[i]:=by simp [rd_T123,List.getD,h]
theorem args_l0 {S I : List ByteArray} (h : RelK S I) (args : List S123) (ha : args.length ≤ 1048576) (hx : ∀ e ∈ args,smallX e.f0) (d : Nat) : ∀ j : Nat,args.length - j = d → j ≤ args.length →
  ∃ b,Ev (fun k => spec_l06Args.l0 k args S (j : Int)) b ∧ Ev (fun k => impl_argsKnown.l0 k I args (args.length : Int) (j : Int)) b:=by
 induction d with
 | zero =>
  intro j hd hj
  exact ⟨true,Ev.shift 1 (f:=fun _ => some true) (fun k => by rw [spec_l06Args.l0,if_neg (by omega)]) (Ev.now _),Ev.shift 1 (f:=fun _ => some true) (fun k => by rw [impl_argsKnown.l0,if_neg (by omega)]) (Ev.now _)⟩
 | succ d ih =>
  intro j hd hj
  have hlt : j < args.length:=by omega
  have hxe:=hx _ (List.getElem_mem hlt)
  obtain ⟨c,c1,c2⟩:=ih (j + 1) (by omega) (by omega)
  obtain ⟨b,b1,b2⟩:=known_l0 h args[j].f0 hxe args j (freeR args[j].f0) (freeR_len _) (freeR args[j].f0).length 0 (by omega) (by omega)
  have b3:=b2 c (by rw [w64_len hlt (by omega)];exact c2)
  have b0 : Ev (fun k => spec_l06Known.f k args[j].f0 S) b:=Ev.bind (specFree_ev _ hxe) b1
  refine ⟨b && c,Ev.shift 1 (fun k => by rw [spec_l06Args.l0,if_pos (by omega),if_pos (by omega),rdAE args j hlt]) (Ev.bind b0 ?_),Ev.shift 1 (fun k => by rw [impl_argsKnown.l0,if_pos (by omega),if_pos (by omega),if_pos (by omega),rdAE args j hlt]) (Ev.bind (implFree_ev _ hxe) b3)⟩
  cases b with
  | true => rw [Bool.true_and];exact Ev.congr (fun k => by rw [if_pos rfl,w64_len hlt (by omega)]) c1
  | false => exact Ev.congr (f:=fun _ => some false) (fun k => if_neg (by simp)) (Ev.now _)
theorem args_ev {S I : List ByteArray} (h : RelK S I) (args : List S123) (ha : args.length ≤ 1048576) (hx : ∀ e ∈ args,smallX e.f0) : ∃ b,Ev (fun k => spec_l06Args.f k args S) b ∧ Ev (fun k => impl_argsKnown.f k args I) b:=args_l0 h args ha hx args.length 0 (by omega) (by omega)
theorem str_append (a b : List Int) : strOfNums (a ++ b) = strOfNums a ++ strOfNums b:=by
 have h : (strOfNums (a ++ b)).data.toList = (strOfNums a ++ strOfNums b).data.toList:=by simp [strOfNums]
 revert h
 generalize strOfNums (a ++ b) = x
 generalize strOfNums a ++ strOfNums b = y
 intro h
 cases x;cases y
 simp only [ByteArray.mk.injEq]
 exact Array.toList_inj.1 h
def rws (s : ByteArray) : Nat → Nat → Option (List (Int × Int))
 | 0,_ => none
 | f + 1,i => if i < s.size then
   (if sb (bt s (i : Int)) = true then
    (if i + 2 < s.size ∧ bt s ((i + 1 : Nat) : Int) = 45 then
     (if sb (bt s ((i + 2 : Nat) : Int)) = true ∧ bt s (i : Int) ≤ bt s ((i + 2 : Nat) : Int) ∧ (57 < bt s ((i + 2 : Nat) : Int) ↔ 57 < bt s (i : Int))
      then (rws s f (i + 3)).map ((bt s (i : Int),bt s ((i + 2 : Nat) : Int)) :: ·) else none)
    else (rws s f (i + 1)).map ((bt s (i : Int),bt s (i : Int)) :: ·))
   else none)
  else some []
def encR (rs : List (Int × Int)) : List Int:=rs.flatMap fun p => [p.1,p.2]
theorem encR_cons (p : Int × Int) (rs : List (Int × Int)) : encR (p :: rs) = [p.1,p.2] ++ encR rs:=by simp [encR]
def seg (a b : Int) : List Int:=(List.range (b + 1 - a).toNat).map fun (j : Nat) => a + (j : Int)
theorem seg_nil (a b : Int) (h : b < a) : seg a b = []:=by
 unfold seg
 rw [show (b + 1 - a).toNat = 0 from by omega];rfl
theorem seg_cons (a b : Int) (h : a ≤ b) : seg a b = a :: seg (a + 1) b:=by
 unfold seg
 rw [show (b + 1 - a).toNat = (b + 1 - (a + 1)).toNat + 1 from by omega,List.range_succ_eq_map,List.map_cons,List.map_map]
 congr 1
 ·simp
 ·refine List.map_congr_left fun j hj => ?_
  simp only [Function.comp]
  omega
theorem seg_length (a b : Int) : (seg a b).length = (b + 1 - a).toNat:=by simp [seg]
def expR (rs : List (Int × Int)) : List Int:=rs.flatMap fun p => seg p.1 p.2
theorem expR_cons (p : Int × Int) (rs : List (Int × Int)) : expR (p :: rs) = seg p.1 p.2 ++ expR rs:=by simp [expR]
theorem l05Rows_l0 (s : ByteArray) (hs : s.size ≤ 1048576) (d : Nat) : ∀ (k i : Nat) (acc : List Int),s.size - i ≤ d → 2 * d + 1 ≤ k → i ≤ s.size → acc.length ≤ 2 * i →
  spec_l05Rows.l0 k s (strOfNums acc) (i : Int) = match rws s (d + 1) i with
   | none => some ((⟨#[]⟩ : ByteArray),false)
   | some rs => some (strOfNums (acc ++ encR rs),decide (1 ≤ (s.size : Int) ∧ (s.size : Int) ≤ 12)):=by
 induction d with
 | zero =>
  intro k i acc hd hk hi ha
  obtain ⟨k,rfl⟩ : ∃ k',k = k' + 1:=⟨k - 1,by omega⟩
  rw [spec_l05Rows.l0,if_neg (by omega),rws,if_neg (by omega),l01In_is]
  simp [encR]
 | succ d ih =>
  intro k i acc hd hk hi ha
  obtain ⟨k,rfl⟩ : ∃ k',k = k' + 2:=⟨k - 2,by omega⟩
  by_cases h : i < s.size
  ·have hr:=bt_range s (i : Int)
   rw [spec_l05Rows.l0,if_pos (by omega),if_pos (by omega),l05Byte_is,Option.bind_some,rws,if_pos h]
   by_cases hb : sb (bt s (i : Int)) = true
   ·rw [if_pos hb,if_pos hb]
    have e2 : wrap64 ((i : Int) + 2) = ((i + 2 : Nat) : Int):=by rw [w64 (by omega) (by omega)];omega
    have e1 : wrap64 ((i : Int) + 1) = ((i + 1 : Nat) : Int):=by rw [w64 (by omega) (by omega)];omega
    have e3 : wrap64 ((i : Int) + 3) = ((i + 3 : Nat) : Int):=by rw [w64 (by omega) (by omega)];omega
    have hj : ∀ x : Bool,x = decide (i + 2 < s.size ∧ bt s ((i + 1 : Nat) : Int) = 45) → spec_l05Rows.j1 (k + 1) s (strOfNums acc) (i : Int) (bt s (i : Int)) ((i + 1 : Nat) : Int) x =
      match (if i + 2 < s.size ∧ bt s ((i + 1 : Nat) : Int) = 45 then
       (if sb (bt s ((i + 2 : Nat) : Int)) = true ∧ bt s (i : Int) ≤ bt s ((i + 2 : Nat) : Int) ∧ (57 < bt s ((i + 2 : Nat) : Int) ↔ 57 < bt s (i : Int))
        then (rws s (d + 1) (i + 3)).map ((bt s (i : Int),bt s ((i + 2 : Nat) : Int)) :: ·) else none)
       else (rws s (d + 1) (i + 1)).map ((bt s (i : Int),bt s (i : Int)) :: ·)) with
      | none => some ((⟨#[]⟩ : ByteArray),false)
      | some rs => some (strOfNums (acc ++ encR rs),decide (1 ≤ (s.size : Int) ∧ (s.size : Int) ≤ 12)):=by
     rintro x rfl
     rw [spec_l05Rows.j1]
     by_cases hm : i + 2 < s.size ∧ bt s ((i + 1 : Nat) : Int) = 45
     ·rw [if_pos (decide_eq_true hm),if_pos hm,e2,if_pos (by omega),if_pos (by omega),l05Byte_is,Option.bind_some]
      by_cases hb2 : sb (bt s ((i + 2 : Nat) : Int)) = true
      ·rw [if_pos hb2,if_pos (by omega),if_pos (by omega)]
       by_cases hlt : bt s ((i + 2 : Nat) : Int) < bt s (i : Int)
       ·rw [if_pos hlt,if_neg (by omega)]
       ·rw [if_neg hlt]
        by_cases hk57 : (57 < bt s ((i + 2 : Nat) : Int) ↔ 57 < bt s (i : Int))
        ·have hne : (decide (bt s ((i + 2 : Nat) : Int) > 57) != decide (bt s (i : Int) > 57)) = false:=by
          have : decide (bt s ((i + 2 : Nat) : Int) > 57) = decide (bt s (i : Int) > 57):=decide_eq_decide.2 hk57
          rw [this];simp
         rw [hne,if_neg (by simp),if_pos ⟨hb2,by omega,hk57⟩,Option.bind_some,if_pos (by rw [str_size,str_size];simp only [List.length_cons,List.length_nil];omega),← str_append,e3,
          ih k (i + 3) _ (by omega) (by omega) (by omega) (by simp only [List.length_append,List.length_cons,List.length_nil];omega)]
         cases rws s (d + 1) (i + 3) with
         | none => rfl
         | some rs =>
          simp only [Option.map_some,encR_cons,List.append_assoc]
        ·have hne : (decide (bt s ((i + 2 : Nat) : Int) > 57) != decide (bt s (i : Int) > 57)) = true:=by
          rw [bne_iff_ne]
          intro e
          exact hk57 (decide_eq_decide.1 e)
         rw [hne,if_pos rfl,if_neg (fun h => hk57 h.2.2)]
      ·rw [if_neg hb2,if_neg (fun h => hb2 h.1)]
     ·rw [if_neg (by simpa using hm),if_neg hm,if_pos (by omega),if_pos (by omega),Option.bind_some,if_pos (by rw [str_size,str_size];simp only [List.length_cons,List.length_nil];omega),← str_append,
       ih k (i + 1) _ (by omega) (by omega) (by omega) (by simp only [List.length_append,List.length_cons,List.length_nil];omega)]
      cases rws s (d + 1) (i + 1) with
      | none => rfl
      | some rs => simp only [Option.map_some,encR_cons,List.append_assoc]
    rw [e2,e1]
    by_cases h2 : i + 2 < s.size
    ·rw [if_pos (by omega),if_pos (by omega),if_pos (by omega)]
     exact hj _ (by simp only [h2,true_and];rfl)
    ·rw [if_neg (by omega)]
     exact hj _ (by simp [h2])
   ·rw [if_neg hb,if_neg hb]
  ·rw [spec_l05Rows.l0,if_neg (by omega),rws,if_neg (by omega),l01In_is]
   simp [encR]
def rowsOf (s : ByteArray) : Option (List (Int × Int)):=rws s (s.size + 1) 0
def lenOk (s : ByteArray) : Bool:=decide (1 ≤ (s.size : Int) ∧ (s.size : Int) ≤ 12)
theorem l05Rows_is (s : ByteArray) (hs : s.size ≤ 1048576) (k : Nat) (hk : 2 * s.size + 1 ≤ k) : spec_l05Rows.f k s = match rowsOf s with
   | none => some ((⟨#[]⟩ : ByteArray),false)
   | some rs => some (strOfNums (encR rs),lenOk s):=by
 have h:=l05Rows_l0 s hs s.size k 0 [] (by omega) hk (by omega) (by simp)
 simp only [List.nil_append] at h
 exact h
theorem w64_1 (i : Nat) (h : i ≤ 1000000000) : wrap64 ((i : Int) + 1) = ((i + 1 : Nat) : Int):=by rw [w64 (by omega) (by omega)];omega
theorem w64_2 (i : Nat) (h : i ≤ 1000000000) : wrap64 ((i : Int) + 2) = ((i + 2 : Nat) : Int):=by rw [w64 (by omega) (by omega)];omega
theorem readSet_l1 (s : ByteArray) (i last : Int) (hl0 : 0 ≤ last) (h255 : last ≤ 255) (m : Nat) : ∀ (k : Nat) (acc : List Int) (x : Int),(last + 1 - x).toNat = m → 0 ≤ x → acc.length + m ≤ 1000000000 →
  impl_readSet.l1 (k + m + 1) s acc i last x = impl_readSet.l0 k s (acc ++ seg x last) i:=by
 induction m with
 | zero =>
  intro k acc x hm hx ha
  rw [impl_readSet.l1,w64 (n:=last) (by omega) (by omega),if_neg (by omega),seg_nil x last (by omega),List.append_nil]
 | succ m ih =>
  intro k acc x hm hx ha
  have e : impl_readSet.l1 (k + (m + 1) + 1) s acc i last x = impl_readSet.l1 (k + m + 1) s (acc ++ [x]) i last (x + 1):=by
   rw [impl_readSet.l1,w64 (n:=last) (by omega) (by omega),if_pos (by omega),if_pos (by omega),Int.emod_eq_of_lt hx (by omega),w64 (by omega) (by omega)]
   rfl
  rw [e,ih k _ (x + 1) (by omega) (by omega) (by simp only [List.length_append,List.length_cons,List.length_nil];omega),seg_cons x last (by omega),List.append_assoc]
  rfl
theorem sb_kind {a b : Int} (ha : sb a = true) (hb : sb b = true) : (decide (97 ≤ a ∧ a ≤ 122) != decide (97 ≤ b ∧ b ≤ 122)) = !decide (57 < b ↔ 57 < a):=by
 unfold sb at ha hb
 have ha:=of_decide_eq_true ha
 have hb:=of_decide_eq_true hb
 by_cases h1 : 97 ≤ a ∧ a ≤ 122 <;> by_cases h2 : 97 ≤ b ∧ b ≤ 122
 ·rw [decide_eq_true h1,decide_eq_true h2,decide_eq_true (show (57 < b ↔ 57 < a) by omega)];rfl
 ·rw [decide_eq_true h1,decide_eq_false h2,decide_eq_false (show ¬ (57 < b ↔ 57 < a) by omega)];rfl
 ·rw [decide_eq_false h1,decide_eq_true h2,decide_eq_false (show ¬ (57 < b ↔ 57 < a) by omega)];rfl
 ·rw [decide_eq_false h1,decide_eq_false h2,decide_eq_true (show (57 < b ↔ 57 < a) by omega)];rfl
theorem readSet_j2 (s : ByteArray) (k : Nat) (acc : List Int) (i first last : Int) (hf0 : 0 ≤ first) (hf : first ≤ 255) (hl0 : 0 ≤ last) (hl : last ≤ 255) (ha : acc.length ≤ 900000000) :
  impl_readSet.j2 (k + 30) s acc i first last = if sb first = true ∧ sb last = true ∧ first ≤ last ∧ (57 < last ↔ 57 < first) then impl_readSet.l0 (k + 27 - (last + 1 - first).toNat) s (acc ++ seg first last) i else some (([] : List Int),false):=by
 have hj3 : ∀ x : Bool,impl_readSet.j3 (k + 29) s acc i first last x = if x = true then some (([] : List Int),false) else impl_readSet.l1 (k + 28) s acc i last first:=fun x => by
  rw [impl_readSet.j3,w64 (n:=first) (by omega) (by omega)]
 rw [impl_readSet.j2,isSetByte_b first hf0 hf,Option.bind_some]
 by_cases h1 : sb first = true
 ·rw [if_pos h1,isSetByte_b last hl0 hl,Option.bind_some]
  by_cases h2 : sb last = true
  ·rw [if_pos h2,isSmall_b first hf0 hf,isSmall_b last hl0 hl,Option.bind_some,Option.bind_some,sb_kind h1 h2,hj3,hj3]
   by_cases h3 : (57 < last ↔ 57 < first)
   ·rw [decide_eq_true h3,if_neg (by simp)]
    by_cases h4 : last < first
    ·rw [if_pos (decide_eq_true h4),if_neg (fun h => by omega)]
    ·rw [if_neg (by simpa using h4),if_pos ⟨h1,h2,by omega,h3⟩]
     have hm : (last + 1 - first).toNat ≤ 26:=by
      unfold sb at h1 h2
      have h1:=of_decide_eq_true h1
      have h2:=of_decide_eq_true h2
      omega
     have e:=readSet_l1 s i last hl0 hl (last + 1 - first).toNat (k + 27 - (last + 1 - first).toNat) acc first rfl hf0 (by omega)
     rw [show k + 27 - (last + 1 - first).toNat + (last + 1 - first).toNat + 1 = k + 28 from by omega] at e
     exact e
   ·rw [decide_eq_false h3,if_pos (by simp),if_pos rfl,if_neg (fun h => h3 h.2.2.2)]
  ·rw [if_neg h2,hj3,if_pos rfl,if_neg (fun h => h2 h.2.1)]
 ·rw [if_neg h1,hj3,if_pos rfl,if_neg (fun h => h1 h.1)]
theorem readSet_l0 (s : ByteArray) (hs : s.size ≤ 1048576) (d : Nat) : ∀ (k i : Nat) (acc : List Int),s.size - i ≤ d → 40 * d + 40 ≤ k → i ≤ s.size → acc.length ≤ 26 * i →
  impl_readSet.l0 k s acc (i : Int) = match rws s (d + 1) i with
   | none => some (([] : List Int),false)
   | some rs => some (Srt.dd (Srt.msort (acc ++ expR rs)),lenOk s):=by
 induction d with
 | zero =>
  intro k i acc hd hk hi ha
  obtain ⟨k,rfl⟩ : ∃ k',k = k' + 1:=⟨k - 1,by omega⟩
  rw [impl_readSet.l0,if_neg (by omega),rws,if_neg (by omega),slices_Sort_byte_byte.f,if_pos (by omega),Option.bind_some,slices_Compact_byte_byte.f,Srt.msort_length,if_pos (by omega),Option.bind_some,within_is]
  simp [expR,lenOk]
 | succ d ih =>
  intro k i acc hd hk hi ha
  obtain ⟨k,rfl⟩ : ∃ k',k = k' + 32:=⟨k - 32,by omega⟩
  by_cases h : i < s.size
  ·have hr:=bt_range s (i : Int)
   have hr1:=bt_range s ((i + 2 : Nat) : Int)
   rw [impl_readSet.l0,if_pos (by omega),if_pos (by omega),w64_1 i (by omega),rws,if_pos h]
   have hout : ∀ x : Bool,x = decide (i + 1 < s.size ∧ bt s ((i + 1 : Nat) : Int) = 45) → impl_readSet.j1 (k + 31) s acc ((i + 1 : Nat) : Int) (bt s (i : Int)) (bt s (i : Int)) x =
     match (if sb (bt s (i : Int)) = true then
      (if i + 2 < s.size ∧ bt s ((i + 1 : Nat) : Int) = 45 then
       (if sb (bt s ((i + 2 : Nat) : Int)) = true ∧ bt s (i : Int) ≤ bt s ((i + 2 : Nat) : Int) ∧ (57 < bt s ((i + 2 : Nat) : Int) ↔ 57 < bt s (i : Int))
        then (rws s (d + 1) (i + 3)).map ((bt s (i : Int),bt s ((i + 2 : Nat) : Int)) :: ·) else none)
      else (rws s (d + 1) (i + 1)).map ((bt s (i : Int),bt s (i : Int)) :: ·)) else none) with
      | none => some (([] : List Int),false)
      | some rs => some (Srt.dd (Srt.msort (acc ++ expR rs)),lenOk s):=by
    rintro x rfl
    rw [impl_readSet.j1]
    by_cases hm : i + 1 < s.size ∧ bt s ((i + 1 : Nat) : Int) = 45
    ·rw [if_pos (decide_eq_true hm),w64_1 (i + 1) (by omega)]
     by_cases hend : i + 2 = s.size
     ·rw [if_pos (by omega),if_neg (show ¬ (i + 2 < s.size ∧ bt s ((i + 1 : Nat) : Int) = 45) by omega)]
      obtain ⟨d',rfl⟩ : ∃ d',d = d' + 1:=⟨d - 1,by omega⟩
      rw [rws,if_pos hm.1,hm.2,if_neg (show ¬ sb 45 = true by decide)]
      by_cases hb : sb (bt s (i : Int)) = true
      ·rw [if_pos hb];rfl
      ·rw [if_neg hb]
     ·rw [if_neg (by omega),if_pos (by omega),if_pos (by omega),w64_2 (i + 1) (by omega),readSet_j2 s (k + 0) acc _ _ _ hr.1 hr.2 hr1.1 hr1.2 (by omega),if_pos (show i + 2 < s.size ∧ bt s ((i + 1 : Nat) : Int) = 45 from ⟨by omega,hm.2⟩)]
      by_cases hb : sb (bt s (i : Int)) = true
      ·rw [if_pos hb]
       by_cases hc : sb (bt s ((i + 2 : Nat) : Int)) = true ∧ bt s (i : Int) ≤ bt s ((i + 2 : Nat) : Int) ∧ (57 < bt s ((i + 2 : Nat) : Int) ↔ 57 < bt s (i : Int))
       ·have hsg : (bt s ((i + 2 : Nat) : Int) + 1 - bt s (i : Int)).toNat ≤ 26:=by
         have h1:=hb
         have h2:=hc.1
         unfold sb at h1 h2
         have h1:=of_decide_eq_true h1
         have h2:=of_decide_eq_true h2
         omega
        rw [if_pos hc,if_pos ⟨hb,hc⟩,ih _ (i + 3) _ (by omega) (by omega) (by omega) (by rw [List.length_append,seg_length];omega)]
        cases rws s (d + 1) (i + 3) with
        | none => rfl
        | some rs => simp only [Option.map_some,expR_cons,List.append_assoc]
       ·rw [if_neg hc,if_neg (fun h => hc h.2)]
      ·rw [if_neg hb,if_neg (fun h => hb h.1)]
    ·rw [if_neg (by simpa using hm),readSet_j2 s (k + 0) acc _ _ _ hr.1 hr.2 hr.1 hr.2 (by omega),if_neg (show ¬ (i + 2 < s.size ∧ bt s ((i + 1 : Nat) : Int) = 45) from fun h => hm ⟨by omega,h.2⟩)]
     by_cases hb : sb (bt s (i : Int)) = true
     ·rw [if_pos hb,if_pos ⟨hb,hb,Int.le_refl _,Iff.rfl⟩,ih _ (i + 1) _ (by omega) (by omega) (by omega) (by rw [List.length_append,seg_length];omega)]
      cases rws s (d + 1) (i + 1) with
      | none => rfl
      | some rs => simp only [Option.map_some,expR_cons,List.append_assoc]
     ·rw [if_neg hb,if_neg (fun h => hb h.1)]
   by_cases h2 : i + 1 < s.size
   ·rw [if_pos (by omega),if_pos (by omega)]
    exact hout _ (by simp only [h2,true_and];rfl)
   ·rw [if_neg (by omega)]
    exact hout _ (by simp [h2])
  ·rw [impl_readSet.l0,if_neg (by omega),rws,if_neg (by omega),slices_Sort_byte_byte.f,if_pos (by omega),Option.bind_some,slices_Compact_byte_byte.f,Srt.msort_length,if_pos (by omega),Option.bind_some,within_is]
   simp [expR,lenOk]
theorem readSet_is (s : ByteArray) (hs : s.size ≤ 1048576) (k : Nat) (hk : 40 * s.size + 40 ≤ k) : impl_readSet.f k s = match rowsOf s with
   | none => some (([] : List Int),false)
   | some rs => some (Srt.dd (Srt.msort (expR rs)),lenOk s):=by
 have h:=readSet_l0 s hs s.size k 0 [] (by omega) hk (by omega) (by simp)
 simp only [List.nil_append] at h
 exact h
def setOkR (s : ByteArray) : Bool:=(rowsOf s).isSome && lenOk s
theorem specSetOk_is (s : ByteArray) (hs : s.size ≤ 1048576) (k : Nat) (hk : 2 * s.size + 1 ≤ k) : spec_SetOk.f k s = some (setOkR s):=by
 unfold spec_SetOk.f setOkR
 rw [l05Rows_is s hs k hk]
 cases rowsOf s <;> rfl
theorem implSetOk_is (s : ByteArray) (hs : s.size ≤ 1048576) (k : Nat) (hk : 40 * s.size + 40 ≤ k) : impl_SetOk.f k s = some (setOkR s):=by
 unfold impl_SetOk.f setOkR
 rw [readSet_is s hs k hk]
 cases rowsOf s <;> rfl
theorem filt_len (s : ByteArray) (L : List ByteArray) (h : s ∉ L) : (L.filter (fun x : ByteArray => decide (x.data.toList < s.data.toList))).length + (L.filter (fun x : ByteArray => decide (s.data.toList < x.data.toList))).length = L.length:=by
 induction L with
 | nil => simp
 | cons x L ih =>
  have h2 : s ∉ L:=fun m => h (List.mem_cons_of_mem _ m)
  have hne : ¬ s = x:=fun e => h (e ▸ List.mem_cons_self ..)
  have ih:=ih h2
  rw [List.filter_cons,List.filter_cons]
  by_cases c : x.data.toList < s.data.toList
  ·rw [decide_eq_true c,if_pos rfl,decide_eq_false (lb_asymm c),if_neg (by simp)]
   simp only [List.length_cons];omega
  ·have c2 : s.data.toList < x.data.toList:=Classical.byContradiction fun c2 => hne (toList_eq.1 (by
    rw [ByteArray.toList_eq,ByteArray.toList_eq];exact lb_total c2 c))
   rw [decide_eq_false c,if_neg (by simp),decide_eq_true c2,if_pos rfl]
   simp only [List.length_cons];omega
theorem putS_len (L : List ByteArray) (s : ByteArray) (h : s ∉ L) : (putS L s).length = L.length + 1:=by
 have h:=filt_len s L h
 unfold putS
 rw [List.length_append,List.length_cons]
 omega
theorem putS_mem (L : List ByteArray) (s x : ByteArray) : x ∈ putS L s ↔ x ∈ L ∨ x = s:=by
 have inj : ∀ {a b : ByteArray},a.data.toList = b.data.toList → a = b:=fun {a b} e => toList_eq.1 (by rw [ByteArray.toList_eq,ByteArray.toList_eq];exact e)
 unfold putS
 rw [List.mem_append,List.mem_cons,List.mem_filter,List.mem_filter]
 constructor
 ·rintro (h | h | h)
  ·exact .inl h.1
  ·exact .inr h
  ·exact .inl h.1
 ·rintro (h | h)
  ·by_cases c : x.data.toList < s.data.toList
   ·exact .inl ⟨h,decide_eq_true c⟩
   ·by_cases c2 : s.data.toList < x.data.toList
    ·exact .inr (.inr ⟨h,decide_eq_true c2⟩)
    ·exact .inr (.inl (inj (lb_total c c2)))
  ·exact .inr (.inl h)
theorem RelK.put {S I : List ByteArray} (h : RelK S I) (s : ByteArray) (hs : s ∉ S) (hl : (putS S s).length ≤ 6) : RelK (putS S s) (I ++ [s]):=by
 refine ⟨fun x => ?_,by rw [putS_len S s hs,List.length_append,h.2.1];rfl,hl⟩
 rw [putS_mem,List.mem_append,List.mem_singleton,h.1 x]
theorem bind_ev {S I : List ByteArray} (h : RelK S I) (s : ByteArray) (hs : s.size ≤ 1048576) (op : Int) (src : ByteArray) (args : List S123) :
  ∃ r : List ByteArray × Bool,Ev (fun k => spec_l06Sym.j0 k S false op src args s) r ∧ Ev (fun k => impl_bindOk.f k s I) r.2 ∧ (r.2 = true → RelK r.1 (if s.toList = ([] : List UInt8) then I else I ++ [s])):=by
 have h1:=h.2.1
 have h2:=h.2.2
 by_cases c : s.toList = ([] : List UInt8)
 ·refine ⟨(S,true),Ev.shift 1 (f:=fun _ => some (S,true)) (fun k => by rw [spec_l06Sym.j0,if_neg (by simp),if_pos c]) (Ev.now _),Ev.congr (f:=fun _ => some true) (fun k => by rw [impl_bindOk.f,if_pos c]) (Ev.now _),fun _ => ?_⟩
  rw [if_pos c];exact h
 have eP : Ev (fun k => spec_l03Put.f k S s) (putS S s):=Ev.from 100 fun k hk => put_is S (by omega) s k (by omega)
 have eS:=Ev.from (g:=fun k => spec_VarName.f k s) s.size (fun k hk => specVarName_is _ (by omega) k hk)
 have eI:=Ev.from (g:=fun k => impl_VarName.f k s) s.size (fun k hk => implVarName_is _ (by omega) k hk)
 have e1:=in_ev S (by omega) s
 have e2:=contains_ev I (by omega) s
 rw [← h.dec] at e2
 by_cases v : varNameB s = true
 rotate_left
 ·refine ⟨(putS S s,false),Ev.shift 1 (fun k => by rw [spec_l06Sym.j0,if_neg (by simp),if_neg c]) (Ev.bind eP (Ev.bind eS ?_)),Ev.congr (fun k => by rw [impl_bindOk.f,if_neg c]) (Ev.bind eI ?_),fun h => by cases h⟩
  ·exact Ev.congr (f:=fun _ => some (putS S s,false)) (fun k => if_neg v) (Ev.now _)
  ·exact Ev.congr (f:=fun _ => some false) (fun k => if_neg v) (Ev.now _)
 by_cases m : s ∈ S
 ·have m2:=(has_iff S s).2 m
  refine ⟨(putS S s,false),Ev.shift 1 (fun k => by rw [spec_l06Sym.j0,if_neg (by simp),if_neg c]) (Ev.bind eP (Ev.bind eS ?_)),Ev.congr (fun k => by rw [impl_bindOk.f,if_neg c]) (Ev.bind eI ?_),fun h => by cases h⟩
  ·exact Ev.congr (fun k => if_pos v) (Ev.bind e1 (Ev.congr (f:=fun _ => some (putS S s,false)) (fun k => if_pos m2) (Ev.now _)))
  ·exact Ev.congr (fun k => if_pos v) (Ev.bind e2 (Ev.congr (f:=fun _ => some false) (fun k => if_pos m2) (Ev.now _)))
 ·have m2 : ¬ impl_EnvOnly.has S s = true:=fun h => m ((has_iff S s).1 h)
  have hl:=putS_len S s m
  refine ⟨(putS S s,decide (((putS S s).length : Int) ≤ 6)),Ev.shift 1 (fun k => by rw [spec_l06Sym.j0,if_neg (by simp),if_neg c]) (Ev.bind eP (Ev.bind eS ?_)),Ev.congr (fun k => by rw [impl_bindOk.f,if_neg c]) (Ev.bind eI ?_),fun q => ?_⟩
  ·exact Ev.congr (fun k => if_pos v) (Ev.bind e1 (Ev.congr (f:=fun _ => some (putS S s,decide (((putS S s).length : Int) ≤ 6))) (fun k => if_neg m2) (Ev.now _)))
  ·refine Ev.congr (fun k => if_pos v) (Ev.bind e2 (Ev.congr (f:=fun _ => some (decide (((putS S s).length : Int) ≤ 6))) (fun k => ?_) (Ev.now _)))
   rw [if_neg m2]
   congr 1
   exact decide_eq_decide.2 (by omega)
  ·rw [if_neg c]
   have q2 : ((putS S s).length : Int) ≤ 6:=of_decide_eq_true q
   exact h.put s m (by omega)
def smallY (y : S76) : Prop:=y.f1.size ≤ 1048576 ∧ y.f3.size ≤ 1048576 ∧ y.f2.length ≤ 1048576 ∧ ∀ e ∈ y.f2,smallX e.f0
theorem sym_ev (g : List S49) {S I : List ByteArray} (h : RelK S I) (y : S76) (hy : smallY y) (cnt a2 : Int) (hc : impl_altOk_1.f g y.f1 = some cnt) :
  ∃ r : List ByteArray × Bool,Ev (fun k => spec_l06Sym.f k y.f0 y.f1 y.f2 y.f3 S cnt) r ∧ Ev (fun k => impl_symOk.f g k y.f0 y.f1 y.f2 y.f3 I a2) r.2 ∧ (r.2 = true → RelK r.1 (if y.f3.toList = ([] : List UInt8) then I else I ++ [y.f3])):=by
 obtain ⟨op,src,args,bd⟩:=y
 obtain ⟨z1,z2,z3,z4⟩:=hy
 dsimp only at z1 z2 z3 z4 hc ⊢
 have start : ∀ q : Bool,Ev (fun k => impl_symOk.j0 g k I (decide ((args.length : Int) = 0) && (bd.toList == ([] : List UInt8))) op src args bd) q → Ev (fun k => impl_symOk.f g k op src args bd I a2) q:=fun q e => by
  refine Ev.congr (fun k => ?_) e
  rw [impl_symOk.f]
  by_cases c : (args.length : Int) = 0
  ·rw [if_pos c,decide_eq_true c,Bool.true_and]
  ·rw [if_neg c,decide_eq_false c,Bool.false_and]
 have bare : ∀ (t : Bool),(t && (decide ((args.length : Int) = 0) && (bd.toList == ([] : List UInt8)))) = true → RelK S (if bd.toList = ([] : List UInt8) then I else I ++ [bd]):=fun t e => by
  simp only [Bool.and_eq_true] at e
  rw [if_pos (eq_of_beq e.2.2)]
  exact h
 by_cases o1 : op = 1
 ·obtain ⟨t,s1,i1⟩:=text_ev src z1
  refine ⟨(S,t && (decide ((args.length : Int) = 0) && (bd.toList == ([] : List UInt8)))),?_,start _ ?_,bare t⟩
  ·refine Ev.congr (fun k => by rw [spec_l06Sym.f,if_pos o1]) (Ev.bind s1 (Ev.congr (f:=fun _ => some _) (fun k => ?_) (Ev.now _)))
   cases t with
   | false => rw [if_neg (by simp),Bool.false_and]
   | true =>
    rw [if_pos rfl,Bool.true_and]
    by_cases c : (args.length : Int) = 0
    ·rw [if_pos c,decide_eq_true c,Bool.true_and]
    ·rw [if_neg c,decide_eq_false c,Bool.false_and]
  ·cases hb : (decide ((args.length : Int) = 0) && (bd.toList == ([] : List UInt8))) with
   | true => rw [Bool.and_true];exact Ev.shift 1 (fun k => by rw [impl_symOk.j0,if_pos o1,if_pos rfl]) (Ev.bind i1 (Ev.now _))
   | false => rw [Bool.and_false];exact Ev.shift 1 (f:=fun _ => some false) (fun k => by rw [impl_symOk.j0,if_pos o1,if_neg (by simp)]) (Ev.now _)
 by_cases o2 : op = 2
 ·have s1 : Ev (fun k => spec_SetOk.f k src) (setOkR src):=Ev.from (40 * src.size + 40) fun k hk => specSetOk_is src z1 k (by omega)
  have i1 : Ev (fun k => impl_SetOk.f k src) (setOkR src):=Ev.from (40 * src.size + 40) fun k hk => implSetOk_is src z1 k (by omega)
  generalize setOkR src = t at s1 i1
  refine ⟨(S,t && (decide ((args.length : Int) = 0) && (bd.toList == ([] : List UInt8)))),?_,start _ ?_,bare t⟩
  ·refine Ev.congr (fun k => by rw [spec_l06Sym.f,if_neg o1,if_pos o2]) (Ev.bind s1 (Ev.congr (f:=fun _ => some _) (fun k => ?_) (Ev.now _)))
   cases t with
   | false => rw [if_neg (by simp),Bool.false_and]
   | true =>
    rw [if_pos rfl,Bool.true_and]
    by_cases c : (args.length : Int) = 0
    ·rw [if_pos c,decide_eq_true c,Bool.true_and]
    ·rw [if_neg c,decide_eq_false c,Bool.false_and]
  ·cases hb : (decide ((args.length : Int) = 0) && (bd.toList == ([] : List UInt8))) with
   | true => rw [Bool.and_true];exact Ev.shift 1 (fun k => by rw [impl_symOk.j0,if_neg o1,if_pos o2,if_pos rfl]) (Ev.bind i1 (Ev.now _))
   | false => rw [Bool.and_false];exact Ev.shift 1 (f:=fun _ => some false) (fun k => by rw [impl_symOk.j0,if_neg o1,if_pos o2,if_neg (by simp)]) (Ev.now _)
 obtain ⟨t,s1,i1⟩:=args_ev h args z3 z4
 have no : ∀ (f : Nat → Option (List ByteArray × Bool)) (i : Nat → Option Bool),(∀ k,f k = some (S,false)) → (∀ k,i (k + 1) = some false) → ∃ r : List ByteArray × Bool,Ev f r ∧ Ev i r.2 ∧ (r.2 = true → RelK r.1 (if bd.toList = ([] : List UInt8) then I else I ++ [bd])):=fun f i h1 h2 =>
  ⟨(S,false),Ev.congr (f:=fun _ => some (S,false)) h1 (Ev.now _),Ev.shift 1 (f:=fun _ => some false) h2 (Ev.now _),fun h => by cases h⟩
 have fin : (∃ r : List ByteArray × Bool,Ev (fun k => spec_l06Sym.f k op src args bd S cnt) r ∧ Ev (fun k => impl_symOk.j0 g k I (decide ((args.length : Int) = 0) && (bd.toList == ([] : List UInt8))) op src args bd) r.2 ∧ (r.2 = true → RelK r.1 (if bd.toList = ([] : List UInt8) then I else I ++ [bd]))) → ∃ r : List ByteArray × Bool,Ev (fun k => spec_l06Sym.f k op src args bd S cnt) r ∧ Ev (fun k => impl_symOk.f g k op src args bd I a2) r.2 ∧ (r.2 = true → RelK r.1 (if bd.toList = ([] : List UInt8) then I else I ++ [bd])):=fun ⟨r,a,b,c⟩ => ⟨r,a,start _ b,c⟩
 apply fin
 by_cases o4 : op = 4
 ·have n3 : ¬ op = 3:=by omega
  by_cases c1 : src.toList = ([] : List UInt8)
  rotate_left
  ·exact no _ _ (fun k => by rw [spec_l06Sym.f,if_neg o1,if_neg o2,if_pos o4,if_neg c1]) (fun k => by rw [impl_symOk.j0,if_neg o1,if_neg o2,if_neg n3,if_pos o4,if_neg c1])
  by_cases c2 : bd.toList = ([] : List UInt8)
  rotate_left
  ·exact no _ _ (fun k => by rw [spec_l06Sym.f,if_neg o1,if_neg o2,if_pos o4,if_pos c1,if_neg c2]) (fun k => by rw [impl_symOk.j0,if_neg o1,if_neg o2,if_neg n3,if_pos o4,if_pos c1,if_neg c2])
  by_cases c3 : (args.length : Int) = 1
  rotate_left
  ·exact no _ _ (fun k => by rw [spec_l06Sym.f,if_neg o1,if_neg o2,if_pos o4,if_pos c1,if_pos c2,if_neg c3]) (fun k => by rw [impl_symOk.j0,if_neg o1,if_neg o2,if_neg n3,if_pos o4,if_pos c1,if_pos c2,if_neg c3])
  refine ⟨(S,t),Ev.congr (fun k => by rw [spec_l06Sym.f,if_neg o1,if_neg o2,if_pos o4,if_pos c1,if_pos c2,if_pos c3]) (Ev.bind s1 (Ev.now _)),Ev.shift 1 (fun k => by rw [impl_symOk.j0,if_neg o1,if_neg o2,if_neg n3,if_pos o4,if_pos c1,if_pos c2,if_pos c3]) (Ev.bind i1 (Ev.now _)),fun _ => ?_⟩
  rw [if_pos c2];exact h
 by_cases o3 : op = 3
 rotate_left
 ·exact no _ _ (fun k => by rw [spec_l06Sym.f,if_neg o1,if_neg o2,if_neg o4,if_neg o3]) (fun k => by rw [impl_symOk.j0,if_neg o1,if_neg o2,if_neg o3,if_neg o4])
 by_cases c3 : (args.length : Int) = cnt
 rotate_left
 ·refine ⟨(S,false),Ev.congr (fun k => by rw [spec_l06Sym.f,if_neg o1,if_neg o2,if_neg o4,if_pos o3,if_neg c3]) (Ev.shift 1 (f:=fun _ => some (S,false)) (fun k => by rw [spec_l06Sym.j0,if_pos rfl]) (Ev.now _)),Ev.shift 1 (f:=fun _ => some false) (fun k => by rw [impl_symOk.j0,if_neg o1,if_neg o2,if_pos o3,hc,Option.bind_some,if_neg (fun e => c3 e.symm)]) (Ev.now _),fun h => by cases h⟩
 cases t with
 | false =>
  refine ⟨(S,false),Ev.congr (fun k => by rw [spec_l06Sym.f,if_neg o1,if_neg o2,if_neg o4,if_pos o3,if_pos c3]) (Ev.bind s1 (Ev.shift 1 (f:=fun _ => some (S,false)) (fun k => by rw [spec_l06Sym.j0,Bool.not_false,if_pos rfl]) (Ev.now _))),Ev.shift 1 (fun k => by rw [impl_symOk.j0,if_neg o1,if_neg o2,if_pos o3,hc,Option.bind_some,if_pos c3.symm]) (Ev.bind i1 ?_),fun h => by cases h⟩
  exact Ev.congr (f:=fun _ => some false) (fun k => if_neg (by simp)) (Ev.now _)
 | true =>
  obtain ⟨r,r1,r2,r3⟩:=bind_ev h bd z2 op src args
  refine ⟨r,Ev.congr (fun k => by rw [spec_l06Sym.f,if_neg o1,if_neg o2,if_neg o4,if_pos o3,if_pos c3]) (Ev.bind s1 r1),Ev.shift 1 (fun k => by rw [impl_symOk.j0,if_neg o1,if_neg o2,if_pos o3,hc,Option.bind_some,if_pos c3.symm]) (Ev.bind i1 ?_),r3⟩
  exact Ev.congr (fun k => if_pos rfl) (Ev.bind r2 (Ev.now _))
theorem params_l0 (xs : List ByteArray) (hl : xs.length ≤ 1048576) (hp : ∀ p ∈ xs,p.size ≤ 1048576) (d : Nat) : ∀ i : Nat,xs.length - i = d → i ≤ xs.length →
  ∃ b,Ev (fun k => spec_l06Params.l0 k xs (i : Int)) b ∧ Ev (fun k => impl_paramsOk.l0 k xs xs (xs.length : Int) (i : Int)) b ∧ (b = true → xs.length ≤ 6):=by
 induction d with
 | zero =>
  intro i hd hi
  refine ⟨decide ((xs.length : Int) ≤ 6),Ev.shift 1 (f:=fun _ => some (decide ((xs.length : Int) ≤ 6))) (fun k => by rw [spec_l06Params.l0,if_neg (by omega)]) (Ev.now _),Ev.shift 1 (f:=fun _ => some (decide ((xs.length : Int) ≤ 6))) (fun k => by rw [impl_paramsOk.l0,if_neg (by omega)]) (Ev.now _),fun h => ?_⟩
  have:=of_decide_eq_true h
  omega
 | succ d ih =>
  intro i hd hi
  have hlt : i < xs.length:=by omega
  have hm:=hp _ (List.getElem_mem hlt)
  have r0:=rdStr xs i hlt
  have eS:=Ev.from (g:=fun k => spec_VarName.f k xs[i]) xs[i].size (fun k hk => specVarName_is _ (by omega) k hk)
  have eI:=Ev.from (g:=fun k => impl_VarName.f k xs[i]) xs[i].size (fun k hk => implVarName_is _ (by omega) k hk)
  obtain ⟨b,e1,e2,e3⟩:=ih (i + 1) (by omega) (by omega)
  by_cases c : varNameB xs[i] = true
  rotate_left
  ·refine ⟨false,Ev.shift 1 (fun k => by rw [spec_l06Params.l0,if_pos (by omega),if_pos (by omega),r0]) (Ev.bind eS ?_),Ev.shift 1 (fun k => by rw [impl_paramsOk.l0,if_pos (by omega),if_pos (by omega),if_pos (by omega),r0]) (Ev.bind eI ?_),fun h => by cases h⟩
   ·exact Ev.congr (f:=fun _ => some false) (fun k => if_neg c) (Ev.now _)
   ·exact Ev.congr (f:=fun _ => some false) (fun k => if_neg c) (Ev.now _)
  by_cases c0 : i = 0
  ·refine ⟨b,Ev.shift 1 (fun k => by rw [spec_l06Params.l0,if_pos (by omega),if_pos (by omega),r0]) (Ev.bind eS ?_),Ev.shift 1 (fun k => by rw [impl_paramsOk.l0,if_pos (by omega),if_pos (by omega),if_pos (by omega),r0]) (Ev.bind eI ?_),e3⟩
   ·exact Ev.congr (fun k => by rw [if_pos c,if_neg (by omega),w64_len hlt (by omega)]) e1
   ·exact Ev.congr (fun k => by rw [if_pos c,if_neg (by omega),w64_len hlt (by omega)]) e2
  have w1 : wrap64 ((i : Int) - 1) = ((i - 1 : Nat) : Int):=by rw [w64 (by omega) (by omega)];omega
  by_cases c1 : Op.bytesLess ((rdOf ByteArray.empty xs ((i - 1 : Nat) : Int)).toList) (xs[i].toList) = true
  ·refine ⟨b,Ev.shift 1 (fun k => by rw [spec_l06Params.l0,if_pos (by omega),if_pos (by omega),r0]) (Ev.bind eS ?_),Ev.shift 1 (fun k => by rw [impl_paramsOk.l0,if_pos (by omega),if_pos (by omega),if_pos (by omega),r0]) (Ev.bind eI ?_),e3⟩
   ·exact Ev.congr (fun k => by rw [if_pos c,if_pos (by omega),w1,if_pos (by omega),if_pos (by omega),if_pos c1,w64_len hlt (by omega)]) e1
   ·exact Ev.congr (fun k => by rw [if_pos c,if_pos (by omega),w1,if_pos (by omega),if_pos (by omega),if_pos c1,w64_len hlt (by omega)]) e2
  ·refine ⟨false,Ev.shift 1 (fun k => by rw [spec_l06Params.l0,if_pos (by omega),if_pos (by omega),r0]) (Ev.bind eS ?_),Ev.shift 1 (fun k => by rw [impl_paramsOk.l0,if_pos (by omega),if_pos (by omega),if_pos (by omega),r0]) (Ev.bind eI ?_),fun h => by cases h⟩
   ·exact Ev.congr (f:=fun _ => some false) (fun k => by rw [if_pos c,if_pos (by omega),w1,if_pos (by omega),if_pos (by omega),if_neg c1]) (Ev.now _)
   ·exact Ev.congr (f:=fun _ => some false) (fun k => by rw [if_pos c,if_pos (by omega),w1,if_pos (by omega),if_pos (by omega),if_neg c1]) (Ev.now _)
theorem params_ev (xs : List ByteArray) (hl : xs.length ≤ 1048576) (hp : ∀ p ∈ xs,p.size ≤ 1048576) : ∃ b,Ev (fun k => spec_l06Params.f k xs) b ∧ Ev (fun k => impl_paramsOk.f k xs) b ∧ (b = true → xs.length ≤ 6) :=
 params_l0 xs hl hp xs.length 0 (by omega) (by omega)
theorem specRuleAt_l0 (xs : List S49) (s : ByteArray) (hl : xs.length ≤ 9223372036854775807) (d : Nat) : ∀ (k i : Nat),xs.length - i ≤ d → d < k → spec_RuleAt.l0 k s (i : Int) xs = some (impl_RuleAt.first s (xs.drop i) (i : Int)):=by
 induction d with
 | zero =>
  intro k i hd hk
  obtain ⟨k,rfl⟩ : ∃ m,k = m + 1:=⟨k - 1,by omega⟩
  rw [spec_RuleAt.l0,if_neg (by omega),List.drop_eq_nil_of_le (by omega)];rfl
 | succ d ih =>
  intro k i hd hk
  obtain ⟨k,rfl⟩ : ∃ m,k = m + 1:=⟨k - 1,by omega⟩
  by_cases hi : i < xs.length
  ·rw [spec_RuleAt.l0,if_pos (by omega),if_pos (by omega),rdIR xs i hi,w64_len hi hl,ih k (i + 1) (by omega) (by omega),drop_get xs i hi]
   simp only [impl_RuleAt.first]
   by_cases h : xs[i].f0.toList = s.toList
   ·rw [if_pos h,if_pos (by simpa using h)]
   ·rw [if_neg h,if_neg (by simpa using h),show ((i + 1 : Nat) : Int) = (i : Int) + 1 from by omega]
  ·rw [spec_RuleAt.l0,if_neg (by omega),List.drop_eq_nil_of_le (by omega)];rfl
def letter (c : Int) : Bool:=decide ((97 ≤ c ∧ c ≤ 122) ∨ (65 ≤ c ∧ c ≤ 90))
def figure (c : Int) : Bool:=decide (48 ≤ c ∧ c ≤ 57)
def restOk (first : Bool) : List Int → Bool
 | [] => true
 | c :: r => (letter c || (!first && figure c)) && r.all fun c => letter c || figure c
theorem restOk_false (l : List Int) : restOk false l = l.all fun c => letter c || figure c:=by cases l <;> simp [restOk]
def ruleNameB (s : ByteArray) : Bool:=restOk true (bs s) && decide (1 ≤ (s.size : Int) ∧ (s.size : Int) ≤ 6)
theorem specRuleName_l0 (s : ByteArray) (hs : s.size ≤ 140737488351232) (d : Nat) : ∀ (k i : Nat),s.size - i ≤ d → d < k →
  spec_RuleName.l0 k s (i : Int) = some (restOk (decide (i = 0)) ((bs s).drop i) && decide (1 ≤ (s.size : Int) ∧ (s.size : Int) ≤ 6)):=by
 induction d with
 | zero =>
  intro k i hd hk
  obtain ⟨k,rfl⟩ : ∃ m,k = m + 1:=⟨k - 1,by omega⟩
  simp only [spec_RuleName.l0]
  rw [if_neg (by omega),l01In_is,bs_drop_nil s i (by omega)];simp [restOk]
 | succ d ih =>
  intro k i hd hk
  obtain ⟨k,rfl⟩ : ∃ m,k = m + 1:=⟨k - 1,by omega⟩
  by_cases hi : i < s.size
  ·have e:=ih k (i + 1) (by omega) (by omega)
   rw [show decide (i + 1 = 0) = false from by simp,restOk_false] at e
   have hb:=bt_range s i
   simp only [spec_RuleName.l0]
   rw [if_pos (by omega),if_pos (by omega),w64_succ hi hs,e,bs_drop s i hi]
   simp only [restOk]
   generalize bt s (i : Int) = c at *
   by_cases h1 : letter c = true
   ·rw [h1]
    simp only [letter,decide_eq_true_eq] at h1
    by_cases h2 : c ≥ 97
    ·rw [if_pos h2,if_pos (by omega)];simp
    ·rw [if_neg h2,if_pos (by omega),if_pos (by omega)];simp
   ·have h1' : letter c = false:=by simpa using h1
    rw [h1']
    have h1 : ¬ ((97 ≤ c ∧ c ≤ 122) ∨ (65 ≤ c ∧ c ≤ 90)):=by simpa [letter] using h1'
    have key : (if (i : Int) = 0 then some false else if c < 48 then some false else if c > 57 then some false else some ((List.drop (i + 1) (bs s)).all (fun c => letter c || figure c) && decide (1 ≤ (s.size : Int) ∧ (s.size : Int) ≤ 6)))
      = some ((false || !decide (i = 0) && figure c) && ((List.drop (i + 1) (bs s)).all fun c => letter c || figure c) && decide (1 ≤ (s.size : Int) ∧ (s.size : Int) ≤ 6)):=by
     by_cases h0 : i = 0
     ·subst h0;simp
     ·rw [if_neg (by omega)]
      by_cases h3 : 48 ≤ c ∧ c ≤ 57
      ·rw [if_neg (by omega),if_neg (by omega),show figure c = true from by simpa [figure] using h3];simp [h0]
      ·rw [show figure c = false from by simpa [figure] using h3]
       by_cases h4 : c < 48
       ·rw [if_pos h4];simp
       ·rw [if_neg h4,if_pos (by omega)];simp
    rw [← key]
    by_cases h2 : c ≥ 97
    ·rw [if_pos h2,if_neg (by omega),if_pos (by omega),if_neg (by omega)]
    ·rw [if_neg h2]
     by_cases h5 : c ≥ 65
     ·rw [if_pos h5,if_neg (by omega)]
     ·rw [if_neg h5]
  ·simp only [spec_RuleName.l0]
   rw [if_neg (by omega),l01In_is,bs_drop_nil s i (by omega)];simp [restOk]
theorem specRuleName_is (s : ByteArray) (hs : s.size ≤ 140737488351232) (k : Nat) (hk : s.size < k) : spec_RuleName.f k s = some (ruleNameB s):=by
 unfold spec_RuleName.f
 exact specRuleName_l0 s hs s.size k 0 (by omega) hk
theorem isLetter_is (s : ByteArray) (i : Int) : impl_isLetter.f (bt s i) = some (decide ((97 ≤ bt s i ∧ bt s i ≤ 122) ∨ (65 ≤ bt s i ∧ bt s i ≤ 90))):=by
 unfold impl_isLetter.f
 rw [isSmall_is,w64_bt,within_is]
 simp only [Option.bind_some]
 by_cases h : 97 ≤ bt s i ∧ bt s i ≤ 122 <;> simp [h]
theorem isFigure_is (s : ByteArray) (i : Int) : impl_isFigure.f (bt s i) = some (decide (48 ≤ bt s i ∧ bt s i ≤ 57)):=by
 unfold impl_isFigure.f
 rw [w64_bt,within_is];rfl
theorem implRuleName_l0 (s : ByteArray) (hs : s.size ≤ 140737488351232) (d : Nat) : ∀ (k i : Nat),s.size - i ≤ d → d < k →
  impl_RuleName.l0 k s (s.size : Int) (i : Int) = some (restOk (decide (i = 0)) ((bs s).drop i) && decide (1 ≤ (s.size : Int) ∧ (s.size : Int) ≤ 6)):=by
 induction d with
 | zero =>
  intro k i hd hk
  obtain ⟨k,rfl⟩ : ∃ m,k = m + 1:=⟨k - 1,by omega⟩
  simp only [impl_RuleName.l0]
  rw [if_neg (by omega),within_is,bs_drop_nil s i (by omega)];simp [restOk]
 | succ d ih =>
  intro k i hd hk
  obtain ⟨k,rfl⟩ : ∃ m,k = m + 1:=⟨k - 1,by omega⟩
  by_cases hi : i < s.size
  ·have e:=ih k (i + 1) (by omega) (by omega)
   rw [show decide (i + 1 = 0) = false from by simp,restOk_false] at e
   simp only [impl_RuleName.l0]
   rw [if_pos (by omega),if_pos (by omega),if_pos (by omega),isLetter_is,isFigure_is,Option.bind_some,Option.bind_some,w64_succ hi hs,e,bs_drop s i hi]
   simp only [restOk]
   generalize bt s (i : Int) = c at *
   rw [show decide (97 ≤ c ∧ c ≤ 122 ∨ 65 ≤ c ∧ c ≤ 90) = letter c from rfl,show decide (48 ≤ c ∧ c ≤ 57) = figure c from rfl]
   by_cases h1 : letter c = true
   ·rw [if_pos h1,h1];simp
   ·rw [if_neg h1,show letter c = false from by simpa using h1]
    by_cases h0 : i = 0
    ·subst h0;simp
    ·rw [if_neg (by omega)]
     by_cases h2 : figure c = true
     ·rw [if_pos h2,h2];simp [h0]
     ·rw [if_neg h2,show figure c = false from by simpa using h2];simp
  ·simp only [impl_RuleName.l0]
   rw [if_neg (by omega),within_is,bs_drop_nil s i (by omega)];simp [restOk]
theorem implRuleName_is (s : ByteArray) (hs : s.size ≤ 140737488351232) (k : Nat) (hk : s.size < k) : impl_RuleName.f k s = some (ruleNameB s):=by
 unfold impl_RuleName.f
 exact implRuleName_l0 s hs s.size k 0 (by omega) hk
theorem first_rng (s : ByteArray) : ∀ (xs : List S49) (i : Int),impl_RuleAt.first s xs i = -1 ∨ (i ≤ impl_RuleAt.first s xs i ∧ impl_RuleAt.first s xs i < i + xs.length)
 | [],i => .inl rfl
 | x :: xs,i => by
  rw [impl_RuleAt.first]
  by_cases c : (x.f0.toList == s.toList) = true
  ·rw [if_pos c];exact .inr ⟨Int.le_refl _,by rw [List.length_cons];omega⟩
  ·rw [if_neg c,List.length_cons]
   rcases first_rng s xs (i + 1) with h | h
   ·exact .inl h
   ·exact .inr ⟨by omega,by omega⟩
theorem ruleAt_ev (g : List S49) (hg : g.length ≤ 1048576) (s : ByteArray) : Ev (fun k => spec_RuleAt.f k g s) (impl_RuleAt.first s g 0):=Ev.from (g.length + 1) fun k hk => by
 unfold spec_RuleAt.f
 have h:=specRuleAt_l0 g s (by omega) g.length k 0 (by omega) (by omega)
 rw [List.drop_zero] at h
 exact h
theorem alt_l1 (g : List S49) (hg : g.length ≤ 1048576) (nm : ByteArray) (ps : List ByteArray) (alts : List S57) (hA : alts.length ≤ 1048576) (i : Nat) (hi : i < alts.length) (hsl : alts[i].f0.length ≤ 1048576) (hsy : ∀ y ∈ alts[i].f0,smallY y) (d : Nat) : ∀ (j : Nat) (S I : List ByteArray),alts[i].f0.length - j = d → j ≤ alts[i].f0.length → RelK S I →
  ∃ b,(∀ c,Ev (fun k => spec_l06Rule.l0 k ((i + 1 : Nat) : Int) g nm ps alts) c → Ev (fun k => spec_l06Rule.l1 k (i : Int) S (j : Int) g nm ps alts) (b && c)) ∧
   Ev (fun k => impl_altOk.l0 g k I 0 alts[i].f0 (alts[i].f0.length : Int) (j : Int) alts[i].f0) (b && decide ((alts[i].f0.length : Int) ≤ 8)):=by
 have rA : rd_T57 alts (i : Int) = alts[i]:=rdIA alts i hi
 induction d with
 | zero =>
  intro j S I hd hj h
  refine ⟨true,fun c hc => ?_,?_⟩
  ·rw [Bool.true_and]
   exact Ev.shift 1 (fun k => by rw [spec_l06Rule.l1,if_pos (by omega),if_pos (by omega),rA,if_neg (by omega),w64_len hi (by omega)]) hc
  ·rw [Bool.true_and]
   exact Ev.shift 1 (f:=fun _ => some (decide ((alts[i].f0.length : Int) ≤ 8))) (fun k => by rw [impl_altOk.l0,if_neg (by omega)]) (Ev.now _)
 | succ d ih =>
  intro j S I hd hj h
  have hlt : j < alts[i].f0.length:=by omega
  have rS : rd_T76 alts[i].f0 (j : Int) = alts[i].f0[j]:=rdIS _ j hlt
  have hy:=hsy _ (List.getElem_mem hlt)
  have hI:=h.2.1
  have hS:=h.2.2
  generalize hyy : alts[i].f0[j] = y at rS hy
  have rng:=first_rng y.f1 g 0
  have eR:=ruleAt_ev g hg y.f1
  generalize hq : impl_RuleAt.first y.f1 g 0 = q at rng eR
  obtain ⟨cnt,hc,hspec⟩ : ∃ cnt,impl_altOk_1.f g y.f1 = some cnt ∧ ∀ F : List ByteArray × Bool → Nat → Option Bool,∀ (S : List ByteArray) r x,Ev (fun k => spec_l06Sym.f k y.f0 y.f1 y.f2 y.f3 S cnt) r → Ev (fun k => F r k) x → Ev (fun k => (spec_RuleAt.f k g y.f1).bind fun t => if t ≥ 0 then (if 0 ≤ t then (if t < (g.length : Int) then (spec_l06Sym.f k y.f0 y.f1 y.f2 y.f3 S (((rd_T49 g t).f1).length : Int)).bind fun r => F r k else none) else none) else (spec_l06Sym.f k y.f0 y.f1 y.f2 y.f3 S (-1)).bind fun r => F r k) x:=by
   unfold impl_altOk_1.f impl_RuleAt.f
   rw [Option.bind_some,hq]
   by_cases c : q < 0
   ·rw [if_pos c]
    exact ⟨-1,rfl,fun F S r x e1 e2 => Ev.bind eR (Ev.congr (fun k => if_neg (by omega)) (Ev.bind e1 e2))⟩
   ·rw [if_neg c,if_pos (by omega)]
    exact ⟨_,rfl,fun F S r x e1 e2 => Ev.bind eR (Ev.congr (fun k => by rw [if_pos (by omega),if_pos (by omega),if_pos (by omega)]) (Ev.bind e1 e2))⟩
  obtain ⟨r,s1,s2,s3⟩:=sym_ev g h y hy cnt 0 hc
  have sp : ∀ x,Ev (fun k => if r.2 = true then spec_l06Rule.l1 k (i : Int) r.1 ((j + 1 : Nat) : Int) g nm ps alts else some false) x → Ev (fun k => spec_l06Rule.l1 k (i : Int) S (j : Int) g nm ps alts) x:=fun x e => by
   refine Ev.shift 1 (fun k => ?_) (hspec (fun r k => if r.2 = true then spec_l06Rule.l1 k (i : Int) r.1 ((j + 1 : Nat) : Int) g nm ps alts else some false) S r x s1 e)
   rw [spec_l06Rule.l1,if_pos (by omega),if_pos (by omega),rA,if_pos (by omega),if_pos (by omega),rS,w64_len hlt (by omega)]
  by_cases c : r.2 = true
  rotate_left
  ·refine ⟨false,fun x hx => sp _ (Ev.congr (f:=fun _ => some false) (fun k => if_neg c) (Ev.now _)),Ev.shift 1 (fun k => by rw [impl_altOk.l0,if_pos (by omega),if_pos (by omega),if_pos (by omega),rS]) (Ev.bind s2 ?_)⟩
   exact Ev.congr (f:=fun _ => some false) (fun k => if_neg c) (Ev.now _)
  ·obtain ⟨b,b1,b2⟩:=ih (j + 1) r.1 _ (by omega) (by omega) (s3 c)
   refine ⟨b,fun x hx => sp _ (Ev.congr (fun k => if_pos c) (b1 x hx)),Ev.shift 1 (fun k => by rw [impl_altOk.l0,if_pos (by omega),if_pos (by omega),if_pos (by omega),rS]) (Ev.bind s2 (Ev.congr (fun k => ?_) b2))⟩
   rw [if_pos c,w64_len hlt (by omega)]
   by_cases e : y.f3.toList = ([] : List UInt8)
   ·rw [if_pos e,if_pos e]
   ·rw [if_neg e,if_neg e,if_pos (by omega)]
theorem alt_ev (g : List S49) (hg : g.length ≤ 1048576) (nm : ByteArray) (ps : List ByteArray) (alts : List S57) (hA : alts.length ≤ 1048576) (hps : ps.length ≤ 6) (i : Nat) (hi : i < alts.length) (hsl : alts[i].f0.length ≤ 1048576) (hsy : ∀ y ∈ alts[i].f0,smallY y) :
  ∃ b,(∀ c,Ev (fun k => spec_l06Rule.l0 k ((i + 1 : Nat) : Int) g nm ps alts) c → Ev (fun k => spec_l06Rule.l0 k (i : Int) g nm ps alts) (b && c)) ∧ Ev (fun k => impl_altOk.f k g alts[i].f0 ps) b:=by
 have rA : rd_T57 alts (i : Int) = alts[i]:=rdIA alts i hi
 obtain ⟨b,b1,b2⟩:=alt_l1 g hg nm ps alts hA i hi hsl hsy alts[i].f0.length 0 ps ps (by omega) (by omega) (RelK.self hps)
 refine ⟨b && decide ((alts[i].f0.length : Int) ≤ 8),fun c hc => ?_,Ev.congr (fun k => ?_) b2⟩
 ·by_cases q : (alts[i].f0.length : Int) ≤ 8
  ·rw [decide_eq_true q,Bool.and_true]
   refine Ev.shift 1 (fun k => ?_) (b1 c hc)
   rw [spec_l06Rule.l0,if_pos (by omega),Option.bind_some,if_pos (by simp only [List.length_nil];omega),if_pos (by omega),rA,if_neg (by omega),List.nil_append]
   rfl
  ·rw [decide_eq_false q,Bool.and_false,Bool.false_and]
   refine Ev.shift 1 (f:=fun _ => some false) (fun k => ?_) (Ev.now _)
   rw [spec_l06Rule.l0,if_pos (by omega),Option.bind_some,if_pos (by simp only [List.length_nil];omega),if_pos (by omega),rA,if_pos (by omega)]
 ·rw [impl_altOk.f,impl_copyTexts.f,Option.bind_some,if_pos (by simp only [List.length_nil];omega),Option.bind_some,List.nil_append]
  rfl
theorem alts_l0 (g : List S49) (hg : g.length ≤ 1048576) (nm : ByteArray) (ps : List ByteArray) (alts : List S57) (hA : alts.length ≤ 1048576) (hps : ps.length ≤ 6) (hal : ∀ a ∈ alts,a.f0.length ≤ 1048576 ∧ ∀ y ∈ a.f0,smallY y) (ri : Nat) (d : Nat) : ∀ i : Nat,alts.length - i = d → i ≤ alts.length →
  ∃ b,Ev (fun k => spec_l06Rule.l0 k (i : Int) g nm ps alts) b ∧ ∀ c,Ev (fun k => impl_GrammarOk.l0 k g (g.length : Int) (wrap64 ((ri : Int) + 1)) g) c → Ev (fun k => impl_GrammarOk.l1 k g (g.length : Int) (ri : Int) alts (alts.length : Int) (i : Int) g nm ps alts) (b && c):=by
 induction d with
 | zero =>
  intro i hd hi
  refine ⟨true,Ev.shift 1 (f:=fun _ => some true) (fun k => by rw [spec_l06Rule.l0,if_neg (by omega)]) (Ev.now _),fun c hc => ?_⟩
  rw [Bool.true_and]
  exact Ev.shift 1 (fun k => by rw [impl_GrammarOk.l1,if_neg (by omega)]) hc
 | succ d ih =>
  intro i hd hi
  have hlt : i < alts.length:=by omega
  have rA : rd_T57 alts (i : Int) = alts[i]:=rdIA alts i hlt
  have hm:=hal _ (List.getElem_mem hlt)
  obtain ⟨b,b1,b2⟩:=alt_ev g hg nm ps alts hA hps i hlt hm.1 hm.2
  obtain ⟨b',e1,e2⟩:=ih (i + 1) (by omega) (by omega)
  refine ⟨b && b',b1 b' e1,fun c hc => Ev.shift 1 (fun k => by rw [impl_GrammarOk.l1,if_pos (by omega),if_pos (by omega),if_pos (by omega),rA]) (Ev.bind b2 ?_)⟩
  cases b with
  | true => rw [Bool.true_and];exact Ev.congr (fun k => by show (if true = true then _ else _) = _;rw [if_pos rfl,w64_len hlt (by omega)]) (e2 c hc)
  | false => exact Ev.congr (f:=fun _ => some false) (fun k => if_neg (by simp)) (Ev.now _)
def smallR (y : S49) : Prop:=y.f0.size ≤ 1048576 ∧ (y.f1.length ≤ 1048576 ∧ ∀ p ∈ y.f1,p.size ≤ 1048576) ∧ y.f2.length ≤ 1048576 ∧ ∀ a ∈ y.f2,a.f0.length ≤ 1048576 ∧ ∀ s ∈ a.f0,smallY s
theorem grammar_l0 (g : List S49) (hg : g.length ≤ 1048576) (hr : ∀ y ∈ g,smallR y) (d : Nat) : ∀ i : Nat,g.length - i = d → i ≤ g.length →
  ∃ b,Ev (fun k => spec_GrammarOk.l0 k (i : Int) g) b ∧ Ev (fun k => impl_GrammarOk.l0 k g (g.length : Int) (i : Int) g) b:=by
 induction d with
 | zero =>
  intro i hd hi
  exact ⟨true,Ev.shift 1 (f:=fun _ => some true) (fun k => by rw [spec_GrammarOk.l0,if_neg (by omega)]) (Ev.now _),Ev.shift 1 (f:=fun _ => some true) (fun k => by rw [impl_GrammarOk.l0,if_neg (by omega)]) (Ev.now _)⟩
 | succ d ih =>
  intro i hd hi
  have hlt : i < g.length:=by omega
  have rR : rd_T49 g (i : Int) = g[i]:=rdIR g i hlt
  have hy:=hr _ (List.getElem_mem hlt)
  generalize g[i] = y at rR hy
  obtain ⟨z0,⟨z1,z2⟩,z3,z4⟩:=hy
  obtain ⟨c,c1,c2⟩:=ih (i + 1) (by omega) (by omega)
  have eR:=ruleAt_ev g hg y.f0
  have eN:=Ev.from (g:=fun k => spec_RuleName.f k y.f0) y.f0.size (fun k hk => specRuleName_is _ (by omega) k hk)
  have eM:=Ev.from (g:=fun k => impl_RuleName.f k y.f0) y.f0.size (fun k hk => implRuleName_is _ (by omega) k hk)
  obtain ⟨p,p1,p2,p3⟩:=params_ev y.f1 z1 z2
  have si : ∀ x,Ev (fun k => if ruleNameB y.f0 = true then (impl_RuleAt.f g y.f0).bind fun t => if t = (i : Int) then (impl_paramsOk.f k y.f1).bind fun t2 => if t2 = true then (impl_within.f ((y.f2.length : Int)) 1 8).bind fun t3 => impl_GrammarOk.j2 k g (g.length : Int) (i : Int) (!t3) g y.f0 y.f1 y.f2 else impl_GrammarOk.j2 k g (g.length : Int) (i : Int) true g y.f0 y.f1 y.f2 else impl_GrammarOk.j2 k g (g.length : Int) (i : Int) true g y.f0 y.f1 y.f2 else impl_GrammarOk.j2 k g (g.length : Int) (i : Int) true g y.f0 y.f1 y.f2) x → Ev (fun k => impl_GrammarOk.l0 k g (g.length : Int) (i : Int) g) x:=fun x e => by
   refine Ev.shift 1 (fun k => ?_) (Ev.bind (f:=fun k t => if t = true then (impl_RuleAt.f g y.f0).bind fun t => if t = (i : Int) then (impl_paramsOk.f k y.f1).bind fun t2 => if t2 = true then (impl_within.f ((y.f2.length : Int)) 1 8).bind fun t3 => impl_GrammarOk.j2 k g (g.length : Int) (i : Int) (!t3) g y.f0 y.f1 y.f2 else impl_GrammarOk.j2 k g (g.length : Int) (i : Int) true g y.f0 y.f1 y.f2 else impl_GrammarOk.j2 k g (g.length : Int) (i : Int) true g y.f0 y.f1 y.f2 else impl_GrammarOk.j2 k g (g.length : Int) (i : Int) true g y.f0 y.f1 y.f2) eM e)
   rw [impl_GrammarOk.l0,if_pos (by omega),if_pos (by omega),if_pos (by omega),rR]
  have ss : ∀ x,Ev (fun k => if impl_RuleAt.first y.f0 g 0 = (i : Int) then (spec_l06Rule.f k g y.f0 y.f1 y.f2).bind fun t => if t = true then spec_GrammarOk.l0 k ((i + 1 : Nat) : Int) g else some false else some false) x → Ev (fun k => spec_GrammarOk.l0 k (i : Int) g) x:=fun x e => by
   refine Ev.shift 1 (fun k => ?_) (Ev.bind (f:=fun k t => if t = (i : Int) then (spec_l06Rule.f k g y.f0 y.f1 y.f2).bind fun t => if t = true then spec_GrammarOk.l0 k ((i + 1 : Nat) : Int) g else some false else some false) eR e)
   rw [spec_GrammarOk.l0,if_pos (by omega),if_pos (by omega),rR,w64_len hlt (by omega)]
  have bad2 : Ev (fun k => impl_GrammarOk.j2 k g (g.length : Int) (i : Int) true g y.f0 y.f1 y.f2) false:=Ev.shift 1 (f:=fun _ => some false) (fun k => by rw [impl_GrammarOk.j2,if_pos rfl]) (Ev.now _)
  have bad1 : Ev (fun k => spec_l06Rule.j0 k true g y.f0 y.f1 y.f2) false:=Ev.shift 1 (f:=fun _ => some false) (fun k => by rw [spec_l06Rule.j0,if_pos rfl]) (Ev.now _)
  have nope : impl_RuleAt.first y.f0 g 0 = (i : Int) → Ev (fun k => spec_l06Rule.f k g y.f0 y.f1 y.f2) false → Ev (fun k => impl_GrammarOk.l0 k g (g.length : Int) (i : Int) g) false → ∃ b,Ev (fun k => spec_GrammarOk.l0 k (i : Int) g) b ∧ Ev (fun k => impl_GrammarOk.l0 k g (g.length : Int) (i : Int) g) b:=fun q e1 e2 =>
   ⟨false,ss _ (Ev.congr (fun k => if_pos q) (Ev.bind e1 (Ev.congr (f:=fun _ => some false) (fun k => if_neg (by simp)) (Ev.now _)))),e2⟩
  by_cases q : impl_RuleAt.first y.f0 g 0 = (i : Int)
  rotate_left
  ·refine ⟨false,ss _ (Ev.congr (f:=fun _ => some false) (fun k => if_neg q) (Ev.now _)),si _ ?_⟩
   by_cases n : ruleNameB y.f0 = true
   ·exact Ev.congr (fun k => by rw [if_pos n,impl_RuleAt.f,Option.bind_some,if_neg q]) bad2
   ·exact Ev.congr (fun k => if_neg n) bad2
  by_cases n : ruleNameB y.f0 = true
  rotate_left
  ·exact nope q (Ev.bind eN (Ev.congr (fun k => if_neg n) bad1)) (si _ (Ev.congr (fun k => if_neg n) bad2))
  have si2 : ∀ x,Ev (fun k => if p = true then (impl_within.f ((y.f2.length : Int)) 1 8).bind fun t3 => impl_GrammarOk.j2 k g (g.length : Int) (i : Int) (!t3) g y.f0 y.f1 y.f2 else impl_GrammarOk.j2 k g (g.length : Int) (i : Int) true g y.f0 y.f1 y.f2) x → Ev (fun k => impl_GrammarOk.l0 k g (g.length : Int) (i : Int) g) x:=fun x e =>
   si _ (Ev.congr (fun k => by rw [if_pos n,impl_RuleAt.f,Option.bind_some,if_pos q]) (Ev.bind (f:=fun k t => if t = true then (impl_within.f ((y.f2.length : Int)) 1 8).bind fun t3 => impl_GrammarOk.j2 k g (g.length : Int) (i : Int) (!t3) g y.f0 y.f1 y.f2 else impl_GrammarOk.j2 k g (g.length : Int) (i : Int) true g y.f0 y.f1 y.f2) p2 e))
  have ss2 : ∀ x,Ev (fun k => if p = true then (spec_l01In.f ((y.f2.length : Int)) 1 8).bind fun t => spec_l06Rule.j0 k (!t) g y.f0 y.f1 y.f2 else spec_l06Rule.j0 k true g y.f0 y.f1 y.f2) x → Ev (fun k => spec_l06Rule.f k g y.f0 y.f1 y.f2) x:=fun x e =>
   Ev.bind eN (Ev.congr (fun k => if_pos n) (Ev.bind (f:=fun k t => if t = true then (spec_l01In.f ((y.f2.length : Int)) 1 8).bind fun t => spec_l06Rule.j0 k (!t) g y.f0 y.f1 y.f2 else spec_l06Rule.j0 k true g y.f0 y.f1 y.f2) p1 e))
  cases p with
  | false => exact nope q (ss2 _ (Ev.congr (fun k => if_neg (by simp)) bad1)) (si2 _ (Ev.congr (fun k => if_neg (by simp)) bad2))
  | true =>
   by_cases w : (1 : Int) ≤ (y.f2.length : Int) ∧ (y.f2.length : Int) ≤ 8
   rotate_left
   ·exact nope q (ss2 _ (Ev.congr (fun k => by rw [if_pos rfl,l01In_is,Option.bind_some,decide_eq_false w,Bool.not_false]) bad1)) (si2 _ (Ev.congr (fun k => by rw [if_pos rfl,within_is,Option.bind_some,decide_eq_false w,Bool.not_false]) bad2))
   ·obtain ⟨b,b1,b2⟩:=alts_l0 g hg y.f0 y.f1 y.f2 z3 (p3 rfl) z4 i y.f2.length 0 (by omega) (by omega)
    have b3:=b2 c (by rw [w64_len hlt (by omega)];exact c2)
    have d1 : Ev (fun k => spec_l06Rule.j0 k false g y.f0 y.f1 y.f2) b:=Ev.shift 1 (fun k => by rw [spec_l06Rule.j0,if_neg (by simp)];rfl) b1
    have d2 : Ev (fun k => impl_GrammarOk.j2 k g (g.length : Int) (i : Int) false g y.f0 y.f1 y.f2) (b && c):=Ev.shift 1 (fun k => by rw [impl_GrammarOk.j2,if_neg (by simp)];rfl) b3
    have d3:=ss2 b (Ev.congr (fun k => by rw [if_pos rfl,l01In_is,Option.bind_some,decide_eq_true w,Bool.not_true]) d1)
    refine ⟨b && c,ss _ (Ev.congr (fun k => if_pos q) (Ev.bind d3 ?_)),si2 _ (Ev.congr (fun k => by rw [if_pos rfl,within_is,Option.bind_some,decide_eq_true w,Bool.not_true]) d2)⟩
    cases b with
    | true => rw [Bool.true_and];exact Ev.congr (fun k => if_pos rfl) c1
    | false => exact Ev.congr (f:=fun _ => some false) (fun k => if_neg (by simp)) (Ev.now _)
theorem grammar_ev (g : List S49) (hg : g.length ≤ 1048576) (hr : ∀ y ∈ g,smallR y) : ∃ b,Ev (fun k => spec_GrammarOk.f k g) b ∧ Ev (fun k => impl_GrammarOk.f k g) b:=by
 have bad1 : Ev (fun k => spec_GrammarOk.j0 k true g) false:=Ev.shift 1 (f:=fun _ => some false) (fun k => by rw [spec_GrammarOk.j0,if_pos rfl]) (Ev.now _)
 have bad2 : Ev (fun k => impl_GrammarOk.j0 k true g) false:=Ev.shift 1 (f:=fun _ => some false) (fun k => by rw [impl_GrammarOk.j0,if_pos rfl]) (Ev.now _)
 by_cases w : (1 : Int) ≤ (g.length : Int) ∧ (g.length : Int) ≤ 30
 rotate_left
 ·exact ⟨false,Ev.congr (fun k => by rw [spec_GrammarOk.f,l01In_is,Option.bind_some,decide_eq_false w,if_neg (by simp)]) bad1,Ev.congr (fun k => by rw [impl_GrammarOk.f,within_is,Option.bind_some,decide_eq_false w,if_neg (by simp)]) bad2⟩
 have s1 : ∀ x,Ev (fun k => spec_GrammarOk.j0 k (decide ((((rd_T49 g 0).f1).length : Int) > 0)) g) x → Ev (fun k => spec_GrammarOk.f k g) x:=fun x e => Ev.congr (fun k => by rw [spec_GrammarOk.f,l01In_is,Option.bind_some,decide_eq_true w,if_pos rfl,if_pos (by omega)]) e
 have s2 : ∀ x,Ev (fun k => impl_GrammarOk.j0 k (decide ((((rd_T49 g 0).f1).length : Int) > 0)) g) x → Ev (fun k => impl_GrammarOk.f k g) x:=fun x e => Ev.congr (fun k => by rw [impl_GrammarOk.f,within_is,Option.bind_some,decide_eq_true w,if_pos rfl,if_pos (by omega)]) e
 by_cases p : (((rd_T49 g 0).f1).length : Int) > 0
 ·rw [decide_eq_true p] at s1 s2
  exact ⟨false,s1 _ bad1,s2 _ bad2⟩
 ·rw [decide_eq_false p] at s1 s2
  obtain ⟨b,b1,b2⟩:=grammar_l0 g hg hr g.length 0 (by omega) (by omega)
  exact ⟨b,s1 _ (Ev.shift 1 (fun k => by rw [spec_GrammarOk.j0,if_neg (by simp)];rfl) b1),s2 _ (Ev.shift 1 (fun k => by rw [impl_GrammarOk.j0,if_neg (by simp)];rfl) b2)⟩
theorem smallGr_of {xs : List S73} (h : smallGr xs) : ∀ y ∈ xs.map toRu,smallR y:=by
 intro y hy
 obtain ⟨x,hx,rfl⟩:=List.mem_map.1 hy
 obtain ⟨z0,z1,z2,z3⟩:=h.2 x hx
 refine ⟨z0,z1,by show (x.f2.map toAl).length ≤ _;rw [List.length_map];exact z2,fun a ha => ?_⟩
 obtain ⟨a,hb,rfl⟩:=List.mem_map.1 (show a ∈ x.f2.map toAl from ha)
 obtain ⟨a0,a1⟩:=z3 a hb
 refine ⟨by show (a.f0.map toSy).length ≤ _;rw [List.length_map];exact a0,fun s hs => ?_⟩
 obtain ⟨s,hb,rfl⟩:=List.mem_map.1 (show s ∈ a.f0.map toSy from hs)
 obtain ⟨s0,s1,s2,s3⟩:=a1 s hb
 refine ⟨s2,s3,by show (s.f2.map toEx).length ≤ _;rw [List.length_map];exact s0,fun e he => ?_⟩
 obtain ⟨e,hb,rfl⟩:=List.mem_map.1 (show e ∈ s.f2.map toEx from he)
 exact smallEI_of (s1 e hb)
theorem FnExactGrammarOk : laws_FnExactGrammarOk.Pure:=by
 intro xs hx hl
 by_cases hz : smallGr xs
 rotate_left
 ·refine ⟨20000000,?_⟩
  unfold laws_FnExactGrammarOk.f
  rcases szGrammar_is xs hx hl 1048576 (by omega) (by omega) 20000000 (by omega) with e | ⟨t,e,t0,t1,h⟩
  ·rw [e,Option.bind_some,if_pos (by omega)]
  ·exact absurd h hz
 obtain ⟨b,⟨K1,e1⟩,⟨K2,e2⟩⟩:=grammar_ev (xs.map toRu) (by rw [List.length_map];exact hz.1) (smallGr_of hz)
 have e1:=e1 (K1 + K2 + 20000000) (by omega)
 have e2:=e2 (K1 + K2 + 20000000) (by omega)
 refine ⟨K1 + K2 + 20000000,?_⟩
 dsimp only at e1 e2
 unfold laws_FnExactGrammarOk.f
 rcases szGrammar_is xs hx hl 1048576 (by omega) (by omega) (K1 + K2 + 20000000) (by omega) with e | ⟨t,e,t0,t1,_⟩
 ·rw [e,Option.bind_some,if_pos (by omega)]
 rw [e,Option.bind_some,if_neg (by omega),toGrammar_is xs hz _ (by omega),Option.bind_some,e1,Option.bind_some,Option.bind_some,e2,Option.bind_some,if_neg (by simp),Option.bind_some,eqGrammar_self xs hz _ (by omega),Option.bind_some,if_pos rfl]
end Go.Proofs.YtkbgmojomgelbaaGreat.Pure
