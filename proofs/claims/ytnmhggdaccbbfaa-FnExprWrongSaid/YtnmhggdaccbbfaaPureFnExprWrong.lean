/- FnExprWrong without Go: what is beyond all numbers, divided by nothing, or has no name tells nothing; the program's ExprOk and the reference's answer the same. -/
import Derived.Test.YtnmhggdaccbbfaaMFnExprWrongx9
set_option linter.unusedVariables false
set_option linter.unusedSimpArgs false
set_option maxHeartbeats 400000
namespace Go.Proofs.Ytnmhggdaccbbfaa.Pure
open Go.RowKit Go.Proofs.Ytnmhggdaccbbfaa.MFnExprWrong Go.Proofs.YtnmhggdaccbbfaaW.PrintWords Go.Proofs.YtnmhggdaccbbfaaW.PrintLast
theorem w64 {n : Int} (h : -9223372036854775808 ≤ n) (h' : n ≤ 9223372036854775807) : wrap64 n = n:=by unfold wrap64;omega
theorem w64_succ {i m : Nat} (h : i < m) (hm : m ≤ 140737488351232) : wrap64 ((i : Int) + 1) = ((i + 1 : Nat) : Int):=by
 rw [w64 (by omega) (by omega)];omega
theorem w64_bt (s : ByteArray) (i : Int) : wrap64 (bt s i) = bt s i:=by
 have:=bt_range s i
 exact w64 (by omega) (by omega)
def bs (s : ByteArray) : List Int:=s.data.toList.map fun b => (b.toNat : Int)
theorem bs_length (s : ByteArray) : (bs s).length = s.size:=by simp [bs]
theorem bs_get (s : ByteArray) (i : Nat) (h : i < s.size) : (bs s)[i]? = some (bt s i):=by
 have h2 : i < s.data.toList.length:=by simpa using h
 simp only [bs,List.getElem?_map,List.getElem?_eq_getElem h2,Option.map_some]
 unfold bt
 rw [dif_pos (by simpa using h)]
 rfl
theorem bs_drop (s : ByteArray) (i : Nat) (h : i < s.size) : (bs s).drop i = bt s i :: (bs s).drop (i + 1):=by
 have h2 : i < (bs s).length:=by rw [bs_length];exact h
 rw [List.drop_eq_getElem_cons h2]
 congr 1
 have:=bs_get s i h
 rw [List.getElem?_eq_getElem h2] at this
 exact Option.some.inj this
theorem bs_drop_nil (s : ByteArray) (i : Nat) (h : s.size ≤ i) : (bs s).drop i = []:=List.drop_eq_nil_of_le (by rw [bs_length];exact h)
theorem toList_eq {s t : ByteArray} : s.toList = t.toList ↔ s = t:=by
 rw [ByteArray.toList_eq,ByteArray.toList_eq]
 constructor
 ·intro h;cases s;cases t;simpa [Array.toList_inj] using h
 ·rintro rfl;rfl
theorem tmod_e {n : Int} (h : 0 ≤ n) (m : Int) : Int.tmod n m = n % m:=Int.tmod_eq_emod_of_nonneg h
theorem drop_get {α : Type} (xs : List α) (i : Nat) (h : i < xs.length) : xs.drop i = xs[i] :: xs.drop (i + 1):=List.drop_eq_getElem_cons h
theorem w64_len {i n : Nat} (h : i < n) (hn : n ≤ 9223372036854775807) : wrap64 ((i : Int) + 1) = ((i + 1 : Nat) : Int):=by
 rw [w64 (by omega) (by omega)];omega
theorem and255_range (x : Int) : 0 ≤ Go.bits .and .i64 x 255 ∧ Go.bits .and .i64 x 255 ≤ 255:=by
 have h : Go.bits .and .i64 x 255 = IntKind.i64.wrap (((BitVec.ofInt 64 x) &&& (BitVec.ofInt 64 255)).toNat : Int):=rfl
 have h2 : ((BitVec.ofInt 64 x) &&& (BitVec.ofInt 64 255)).toNat ≤ 255:=by
  rw [BitVec.toNat_and,show (BitVec.ofInt 64 255).toNat = 255 from by decide]
  exact Nat.and_le_right
 rw [h,IntKind.wrap_i64]
 omega
theorem l01New_l0 (b : List Int) (hb : b.length ≤ 140737488351232) (d : Nat) : ∀ (k i : Nat) (h : Int),4000 - i ≤ d → d < k → i ≤ 4000 → ∃ h',spec_l01New.l0 k b h (i : Int) = some (b,0,h'):=by
 induction d with
 | zero =>
  intro k i h hd hk hi
  obtain ⟨k,rfl⟩ : ∃ m,k = m + 1:=⟨k - 1,by omega⟩
  rw [spec_l01New.l0]
  by_cases c : (i : Int) < (b.length : Int)
  ·rw [if_pos c,if_neg (by omega)];exact ⟨_,rfl⟩
  ·rw [if_neg c];exact ⟨_,rfl⟩
 | succ d ih =>
  intro k i h hd hk hi
  obtain ⟨k,rfl⟩ : ∃ m,k = m + 1:=⟨k - 1,by omega⟩
  rw [spec_l01New.l0]
  by_cases c : (i : Int) < (b.length : Int)
  ·rw [if_pos c]
   by_cases c2 : (i : Int) < 4000
   ·rw [if_pos c2,if_pos (by omega),w64_len (n:=4000) (by omega) (by omega)]
    exact ih k (i + 1) _ (by omega) (by omega) (by omega)
   ·rw [if_neg c2];exact ⟨_,rfl⟩
  ·rw [if_neg c];exact ⟨_,rfl⟩
theorem l01New_is (b : List Int) (hb : b.length ≤ 140737488351232) (k : Nat) (hk : 4001 ≤ k) : ∃ h',spec_l01New.f k b = some (b,0,h'):=by
 unfold spec_l01New.f
 exact l01New_l0 b hb 4000 k 0 _ (by omega) (by omega) (by omega)
def At (b : List Int) (i : Int) : Prop:=b.length ≤ 140737488351232 ∧ 0 ≤ i ∧ i ≤ (b.length : Int)
theorem l01Byte_is (b : List Int) (i h : Int) (hi : At b i) : ∃ r i' h',spec_l01Byte.f b i h = some (r,i',h') ∧ (0 ≤ r ∧ r ≤ 255) ∧ At b i':=by
 obtain ⟨hb,h0,h1⟩:=hi
 unfold spec_l01Byte.f
 by_cases c : i < (b.length : Int)
 ·rw [if_pos c,if_pos h0]
  refine ⟨_,_,_,rfl,and255_range _,hb,?_⟩
  rw [w64 (by omega) (by omega)]
  omega
 ·rw [if_neg c]
  exact ⟨_,_,_,rfl,and255_range _,hb,h0,h1⟩
theorem l01Below_is (b : List Int) (i h : Int) (hi : At b i) (n : Int) (hn : 0 < n) : ∃ r i' h',spec_l01Below.f b i h n = some (r,i',h') ∧ (0 ≤ r ∧ r < n) ∧ At b i':=by
 unfold spec_l01Below.f
 rw [if_neg (by omega)]
 by_cases c : n ≤ 256
 ·obtain ⟨r,i',h',e,hr,ha⟩:=l01Byte_is b i h hi
  rw [if_pos c,e,Option.bind_some,if_neg (by omega)]
  refine ⟨_,_,_,rfl,?_,ha⟩
  show 0 ≤ Int.tmod r n ∧ Int.tmod r n < n
  rw [tmod_e hr.1]
  exact ⟨Int.emod_nonneg _ (by omega),Int.emod_lt_of_pos _ hn⟩
 ·obtain ⟨r1,i1,h1,e1,b1,a1⟩:=l01Byte_is b i h hi
  obtain ⟨r2,i2,h2,e2,b2,a2⟩:=l01Byte_is b i1 h1 a1
  obtain ⟨r3,i3,h3,e3,b3,a3⟩:=l01Byte_is b i2 h2 a2
  obtain ⟨r4,i4,h4,e4,b4,a4⟩:=l01Byte_is b i3 h3 a3
  rw [if_neg c,e1,Option.bind_some,e2,Option.bind_some,e3,Option.bind_some,e4,Option.bind_some,if_neg (by omega)]
  refine ⟨_,_,_,rfl,?_,a4⟩
  show 0 ≤ Int.tmod (wrap64 (wrap64 (wrap64 (wrap64 (r1 * 16777216) + wrap64 (r2 * 65536)) + wrap64 (r3 * 256)) + r4)) n ∧ Int.tmod (wrap64 (wrap64 (wrap64 (wrap64 (r1 * 16777216) + wrap64 (r2 * 65536)) + wrap64 (r3 * 256)) + r4)) n < n
  have hx : 0 ≤ wrap64 (wrap64 (wrap64 (wrap64 (r1 * 16777216) + wrap64 (r2 * 65536)) + wrap64 (r3 * 256)) + r4):=by
   rw [w64 (n:=r1 * 16777216) (by omega) (by omega),w64 (n:=r2 * 65536) (by omega) (by omega),w64 (n:=r3 * 256) (by omega) (by omega),w64 (n:=r1 * 16777216 + r2 * 65536) (by omega) (by omega),
    w64 (n:=r1 * 16777216 + r2 * 65536 + r3 * 256) (by omega) (by omega),w64 (by omega) (by omega)]
   omega
  rw [tmod_e hx]
  exact ⟨Int.emod_nonneg _ (by omega),Int.emod_lt_of_pos _ hn⟩
theorem l01Pick_is (b : List Int) (i h : Int) (hi : At b i) (xs : List ByteArray) (hx : xs ≠ []) : ∃ r i' h',spec_l01Pick.f b i h xs = some (r,i',h') ∧ r ∈ xs ∧ At b i':=by
 have hl : 0 < xs.length:=List.length_pos_iff.2 hx
 obtain ⟨r,i',h',e,hr,ha⟩:=l01Below_is b i h hi (xs.length : Int) (by omega)
 unfold spec_l01Pick.f
 rw [e,Option.bind_some,if_pos hr.1,if_pos hr.2]
 refine ⟨_,_,_,rfl,?_,ha⟩
 show rdOf ByteArray.empty xs r ∈ xs
 unfold rdOf
 rw [List.getD_eq_getElem?_getD,List.getElem?_eq_getElem (by omega),Option.getD_some]
 exact List.getElem_mem _
theorem l01PickInt_is (b : List Int) (i h : Int) (hi : At b i) (xs : List Int) (hx : xs ≠ []) : ∃ r i' h',spec_l01PickInt.f b i h xs = some (r,i',h') ∧ r ∈ xs ∧ At b i':=by
 have hl : 0 < xs.length:=List.length_pos_iff.2 hx
 obtain ⟨r,i',h',e,hr,ha⟩:=l01Below_is b i h hi (xs.length : Int) (by omega)
 unfold spec_l01PickInt.f
 rw [e,Option.bind_some,if_pos hr.1,if_pos hr.2]
 refine ⟨_,_,_,rfl,?_,ha⟩
 show rd xs r ∈ xs
 unfold rd
 rw [List.getD_eq_getElem?_getD,List.getElem?_eq_getElem (by omega),Option.getD_some]
 exact List.getElem_mem _
def small (c : Int) : Bool:=decide (97 ≤ c ∧ c ≤ 122)
def varNameB (s : ByteArray) : Bool:=(bs s).all small && decide (1 ≤ (s.size : Int) ∧ (s.size : Int) ≤ 4)
theorem Ev.shift {α : Type} {g f : Nat → Option α} {r : α} (c : Nat) (h : ∀ k,g (k + c) = f k) (k : Ev f r) : Ev g r:=by
 obtain ⟨K,k⟩:=k
 refine ⟨K + c,fun n hn => ?_⟩
 obtain ⟨m,rfl⟩ : ∃ m,n = m + c:=⟨n - c,by omega⟩
 rw [h]
 exact k m (by omega)
theorem Ev.from {α : Type} {g : Nat → Option α} {r : α} (B : Nat) (h : ∀ k,B < k → g k = some r) : Ev g r:=⟨B + 1,fun k hk => h k (by omega)⟩
theorem rdInt (xs : List Int) (i : Nat) (h : i < xs.length) : rd xs (i : Int) = xs[i]:=by simp [rd,List.getD,h]
theorem within_is (a b c : Int) : impl_within.f a b c = some (decide (b ≤ a ∧ a ≤ c)):=by
 unfold impl_within.f
 by_cases h : a ≥ b
 ·rw [if_pos h];simp [show b ≤ a from h]
 ·rw [if_neg h];simp [show ¬ b ≤ a from h]
def kidIn (i : Nat) (c : Int) : Bool:=decide (0 ≤ c ∧ c ≤ (i : Int) - 1)
def kidsIn (i : Nat) (ks : List Int) : Bool:=ks.all (kidIn i)
theorem kidsIn_cons (i : Nat) (c : Int) (ks : List Int) : kidsIn i (c :: ks) = (kidIn i c && kidsIn i ks):=by simp [kidsIn]
theorem implKidsAhead_is (ks : List Int) (hl : ks.length ≤ 1048576) (i : Nat) (hi : i ≤ 9223372036854775807) (k : Nat) (hk : ks.length < k) : impl_kidsAhead.f k ks (i : Int) = some (kidsIn i ks):=by
 have go : ∀ (d k j : Nat),ks.length - j ≤ d → d < k → impl_kidsAhead.l0 k (i : Int) ks (ks.length : Int) (j : Int) = some (kidsIn i (ks.drop j)):=by
  intro d
  induction d with
  | zero =>
   intro k j hd hk
   obtain ⟨k,rfl⟩ : ∃ m,k = m + 1:=⟨k - 1,by omega⟩
   rw [impl_kidsAhead.l0,if_neg (by omega),List.drop_eq_nil_of_le (by omega)];rfl
  | succ d ih =>
   intro k j hd hk
   obtain ⟨k,rfl⟩ : ∃ m,k = m + 1:=⟨k - 1,by omega⟩
   by_cases hj : j < ks.length
   ·rw [impl_kidsAhead.l0,if_pos (by omega),if_pos (by omega),if_pos (by omega),rdInt ks j hj,within_is,Option.bind_some,w64 (n:=(i : Int) - 1) (by omega) (by omega),w64_len hj (by omega),ih k (j + 1) (by omega) (by omega),drop_get ks j hj,kidsIn_cons]
    rw [show decide (0 ≤ ks[j] ∧ ks[j] ≤ (i : Int) - 1) = kidIn i ks[j] from rfl]
    by_cases hc : kidIn i ks[j] = true
    ·rw [if_pos hc,hc,Bool.true_and]
    ·rw [if_neg hc,show kidIn i ks[j] = false from by simpa using hc,Bool.false_and]
   ·rw [impl_kidsAhead.l0,if_neg (by omega),List.drop_eq_nil_of_le (by omega)];rfl
 unfold impl_kidsAhead.f
 exact go ks.length k 0 (by omega) hk
theorem rdE (xs : List S34) (i : Nat) (h : i < xs.length) : rd_T34 xs (i : Int) = xs[i]:=by simp [rd_T34,List.getD,h]
def kidsOf (op : Int) : Int:=if op = 1 ∨ op = 2 ∨ op = 3 then 0 else if op = 11 then 1 else 2
def numOk (op num : Int) : Bool:=if op = 1 then decide (0 ≤ num ∧ num ≤ 99) else decide (num = 0)
def nameOk (op : Int) (s : ByteArray) : Bool:=if op = 2 then varNameB s else decide (s.toList = ([] : List UInt8))
def nodeB (i : Nat) (y : S34) : Bool:=decide (1 ≤ y.f0 ∧ y.f0 ≤ 11) && decide ((y.f3.length : Int) = kidsOf y.f0) && numOk y.f0 y.f1 && nameOk y.f0 y.f2 && kidsIn i y.f3
def nodesB : Nat → List S34 → Bool
 | _,[] => true
 | i,y :: l => nodeB i y && nodesB (i + 1) l
def exprOkB (xs : List S34) : Bool:=nodesB 0 xs && decide (1 ≤ (xs.length : Int) ∧ (xs.length : Int) ≤ 20)
def smallX (xs : List S34) : Prop:=xs.length ≤ 1048576 ∧ ∀ y ∈ xs,y.f2.size ≤ 1048576 ∧ y.f3.length ≤ 1048576
theorem bne_nil (s : ByteArray) : (s.toList != ([] : List UInt8)) = !decide (s.toList = ([] : List UInt8)):=by
 cases h : s.toList <;> simp
theorem nodesB_at (xs : List S34) : ∀ (j : Nat),nodesB j xs = true → ∀ (i : Nat) (h : i < xs.length),nodeB (j + i) xs[i] = true:=by
 induction xs with
 | nil => intro j _ i h;simp at h
 | cons y l ih =>
  intro j hn i h
  have hn2 : nodeB j y = true ∧ nodesB (j + 1) l = true:=by simpa [nodesB] using hn
  cases i with
  | zero => exact hn2.1
  | succ i =>
   have:=ih (j + 1) hn2.2 i (by simpa using h)
   rw [show j + (i + 1) = j + 1 + i from by omega]
   simpa using this
theorem node_facts {xs : List S34} (ho : exprOkB xs = true) (i : Nat) (h : i < xs.length) : (1 ≤ xs[i].f0 ∧ xs[i].f0 ≤ 11) ∧ (xs[i].f3.length : Int) = kidsOf xs[i].f0 ∧ ∀ c ∈ xs[i].f3,0 ≤ c ∧ c < (i : Int):=by
 have h1 : nodesB 0 xs = true:=by
  unfold exprOkB at ho
  rw [Bool.and_eq_true] at ho
  exact ho.1
 have h2:=nodesB_at xs 0 h1 i h
 rw [Nat.zero_add] at h2
 unfold nodeB at h2
 simp only [Bool.and_eq_true,decide_eq_true_eq] at h2
 obtain ⟨⟨⟨⟨a,b⟩,_⟩,_⟩,d⟩:=h2
 refine ⟨a,b,fun c hc => ?_⟩
 have:=List.all_eq_true.1 d c hc
 have : 0 ≤ c ∧ c ≤ (i : Int) - 1:=by simpa [kidIn] using this
 omega
theorem expr_pos {xs : List S34} (ho : exprOkB xs = true) : 1 ≤ xs.length ∧ xs.length ≤ 20:=by
 unfold exprOkB at ho
 rw [Bool.and_eq_true,decide_eq_true_eq] at ho
 omega
theorem rd_in (ks : List Int) (c : Int) (h0 : 0 ≤ c) (h1 : c < ks.length) : rd ks c ∈ ks:=by
 obtain ⟨n,rfl⟩:=Int.eq_ofNat_of_zero_le h0
 rw [rdInt ks n (by omega)]
 exact List.getElem_mem _
def nm3 : List ByteArray:=[(⟨#[97]⟩ : ByteArray),(⟨#[98]⟩ : ByteArray),(⟨#[110]⟩ : ByteArray)]
theorem l04Kids_is (op : Int) : spec_l04Kids.f 2 op = some (kidsOf op):=by
 unfold spec_l04Kids.f kidsOf
 by_cases h1 : op = 1
 ·rw [if_pos h1,if_pos (.inl h1),h1];rfl
 by_cases h2 : op = 2
 ·rw [if_neg h1,if_pos h2,if_pos (.inr (.inl h2)),h2];rfl
 by_cases h3 : op = 3
 ·rw [if_neg h1,if_neg h2,if_pos (.inr (.inr h3)),h3];rfl
 rw [if_neg h1,if_neg h2,if_neg (by omega),spec_l04Kids.j0,show (op == 3) = false from beq_eq_false_iff_ne.2 h3,if_neg (by simp)]
 by_cases h11 : op = 11
 ·rw [if_pos h11,if_pos h11]
 ·rw [if_neg h11,if_neg h11]
theorem nodesB_append (l l' : List S34) : ∀ j : Nat,nodesB j (l ++ l') = (nodesB j l && nodesB (j + l.length) l'):=by
 induction l with
 | nil => intro j;rfl
 | cons y l ih =>
  intro j
  show (nodeB j y && nodesB (j + 1) (l ++ l')) = ((nodeB j y && nodesB (j + 1) l) && nodesB (j + (l.length + 1)) l')
  rw [ih,Bool.and_assoc,show j + 1 + l.length = j + (l.length + 1) from by omega]
theorem l01Once_is (b : List Int) (i h : Int) (hi : At b i) : ∃ (r : Bool) (i' h' : Int),spec_l01Once.f b i h 3 = some (r,i',h') ∧ At b i':=by
 obtain ⟨r,i',h',e,hr,ha⟩:=l01Below_is b i h hi 3 (by omega)
 unfold spec_l01Once.f
 rw [e]
 exact ⟨_,_,_,rfl,ha⟩
theorem madeOp_is (b : List Int) (deep i h : Int) (hi : At b i) : ∃ op i' h',made.op b deep i h = some (op,i',h') ∧ At b i' ∧ 1 ≤ op ∧ op ≤ 11 ∧ (deep ≤ 0 → op ≤ 3):=by
 unfold made.op
 obtain ⟨r,i1,h1,e1,m1,a1⟩:=l01PickInt_is b i h hi [1,1,2,2,3] (by simp)
 have hr : 1 ≤ r ∧ r ≤ 3:=by
  simp only [List.mem_cons,List.not_mem_nil,or_false] at m1
  omega
 rw [e1,Option.bind_some]
 by_cases c : deep > 0
 ·rw [if_pos c]
  obtain ⟨o,i2,h2,e2,a2⟩:=l01Once_is b i1 h1 a1
  show ∃ op i' h',((spec_l01Once.f b i1 h1 3).bind _ : Option _) = _ ∧ _
  rw [e2,Option.bind_some]
  by_cases d : o = true
  ·rw [if_pos d]
   exact ⟨r,i2,h2,rfl,a2,hr.1,by omega,by omega⟩
  ·rw [if_neg d]
   obtain ⟨q,i3,h3,e3,m3,a3⟩:=l01PickInt_is b i2 h2 a2 [4,4,5,6,7,8,9,10,11] (by simp)
   have hq : 4 ≤ q ∧ q ≤ 11:=by
    simp only [List.mem_cons,List.not_mem_nil,or_false] at m3
    omega
   show ∃ op i' h',((spec_l01PickInt.f b i2 h2 [4,4,5,6,7,8,9,10,11]).bind _ : Option _) = _ ∧ _
   rw [e3,Option.bind_some]
   exact ⟨q,i3,h3,rfl,a3,by omega,by omega,by omega⟩
 ·rw [if_neg c]
  exact ⟨r,i1,h1,rfl,a1,hr.1,by omega,fun _ => hr.2⟩
def MadeOk (b : List Int) (m : Nat) (out : List S34) (res : Option (Int × Int × Int × List S34)) : Prop :=
 ∃ new r i' h',res = some (r,i',h',out ++ new) ∧ 0 < new.length ∧ new.length ≤ m ∧ r = ((out ++ new).length : Int) - 1 ∧ At b i' ∧ nodesB out.length new = true
theorem madeFin_is (b : List Int) (out : List S34) (x : S34) (i h : Int) (hi : At b i) (hl : out.length < 1000) (hx : nodeB out.length x = true) : MadeOk b 1 out (made.fin x i h out):=by
 unfold made.fin
 rw [if_pos (by omega)]
 refine ⟨[x],_,i,h,rfl,by simp,by simp,?_,hi,by show (nodeB out.length x && true) = true;rw [hx];rfl⟩
 rw [w64 (by simp only [List.length_append,List.length_singleton];omega) (by simp only [List.length_append,List.length_singleton];omega)]
theorem madeKids_is (b : List Int) (rec : Int → Int → List S34 → Option (Int × Int × Int × List S34)) (m : Nat) (lim : Nat) (hlim : lim ≤ 1000)
  (hrec : ∀ i h out,At b i → out.length + m < lim → MadeOk b m out (rec i h out)) (n : Nat) (d : Nat) : ∀ (k x : Nat) (ks : List Int) (i h : Int) (out : List S34),n - x = d → d < k → x ≤ n → ks.length ≤ x → At b i → out.length + d * m < lim → (d = 0 → True) → (∀ c ∈ ks,0 ≤ c ∧ c < (out.length : Int)) → n ≤ 2 →
   ∃ new ks' i' h',made.kids rec (n : Int) k (x : Int) ks i h out = some (ks',i',h',out ++ new) ∧ new.length ≤ d * m ∧ At b i' ∧ nodesB out.length new = true ∧ ks'.length = ks.length + d ∧ ∀ c ∈ ks',0 ≤ c ∧ c < ((out ++ new).length : Int):=by
 induction d with
 | zero =>
  intro k x ks i h out hd hk hx hks hi hl _ hc hn
  obtain ⟨k,rfl⟩ : ∃ q,k = q + 1:=⟨k - 1,by omega⟩
  rw [made.kids,if_neg (by omega)]
  exact ⟨[],ks,i,h,by rw [List.append_nil],by simp,hi,rfl,rfl,by rw [List.append_nil];exact hc⟩
 | succ d ih =>
  intro k x ks i h out hd hk hx hks hi hl _ hc hn
  obtain ⟨k,rfl⟩ : ∃ q,k = q + 1:=⟨k - 1,by omega⟩
  have hm : (d + 1) * m = d * m + m:=Nat.succ_mul d m
  obtain ⟨new,r,i1,h1,e,hp,hle,hr,ha,hnb⟩:=hrec i h out hi (by omega)
  rw [made.kids,if_pos (by omega),e,Option.bind_some,if_pos (by omega),w64 (by omega) (by omega)]
  obtain ⟨new2,ks2,i2,h2,e2,hl2,ha2,hn2,hk2,hc2⟩:=ih k (x + 1) (ks ++ [r]) i1 h1 (out ++ new) (by omega) (by omega) (by omega) (by simp;omega) ha (by rw [List.length_append];omega) (fun _ => trivial) (by
   intro c hcc
   rw [List.mem_append,List.mem_singleton] at hcc
   rw [List.length_append] at hr ⊢
   rcases hcc with hcc | rfl
   ·have:=hc c hcc;omega
   ·omega) hn
  refine ⟨new ++ new2,ks2,i2,h2,?_,by rw [List.length_append];omega,ha2,?_,by rw [hk2,List.length_append,List.length_singleton];omega,by rw [← List.append_assoc];exact hc2⟩
  ·rw [← List.append_assoc]
   have e3 : ((x : Int) + 1) = ((x + 1 : Nat) : Int):=by omega
   rw [e3]
   exact e2
  ·rw [nodesB_append,hnb]
   rw [List.length_append] at hn2
   rw [hn2]
   rfl
theorem nm3_ok {s : ByteArray} (h : s ∈ nm3) : varNameB s = true:=by
 simp only [nm3,List.mem_cons,List.not_mem_nil,or_false] at h
 rcases h with rfl | rfl | rfl <;> decide
theorem madeSw_is (b : List Int) (rec : Int → Int → List S34 → Option (Int × Int × Int × List S34)) (m : Nat) (op i h : Int) (out : List S34) (hi : At b i) (o1 : 1 ≤ op) (o2 : op ≤ 11) (hl : out.length + 2 * m < 1000)
  (hrec : 3 < op → ∀ i h out',At b i → out'.length + m < out.length + 2 * m + 1 → MadeOk b m out' (rec i h out')) :
  ∃ x new i' h',made.sw rec b nm3 op i h out = some (x,i',h',out ++ new) ∧ new.length ≤ 2 * m ∧ At b i' ∧ nodesB out.length new = true ∧ nodeB (out.length + new.length) x = true:=by
 unfold made.sw
 by_cases c1 : op = 1
 ·rw [if_pos c1]
  obtain ⟨q,i1,h1,e,hq,ha⟩:=l01PickInt_is b i h hi [0,1,2,3,9,99] (by simp)
  rw [e,Option.bind_some]
  refine ⟨_,[],i1,h1,by rw [List.append_nil],by simp,ha,rfl,?_⟩
  subst c1
  have hr : 0 ≤ q ∧ q ≤ 99:=by
   simp only [List.mem_cons,List.not_mem_nil,or_false] at hq
   omega
  have hd : decide (0 ≤ q ∧ q ≤ 99) = true:=decide_eq_true hr
  unfold nodeB numOk nameOk
  simp [kidsOf,kidsIn,hd]
 rw [if_neg c1]
 by_cases c2 : op = 2
 ·rw [if_pos c2,if_neg (by decide)]
  obtain ⟨q,i1,h1,e,hq,ha⟩:=l01Below_is b i h hi (nm3.length : Int) (by decide)
  rw [e,Option.bind_some,if_pos hq.1,if_pos hq.2]
  refine ⟨_,[],i1,h1,by rw [List.append_nil],by simp,ha,rfl,?_⟩
  subst c2
  have hv : varNameB (rdOf ByteArray.empty nm3 q) = true:=by
   refine nm3_ok ?_
   unfold rdOf
   rw [List.getD_eq_getElem?_getD,List.getElem?_eq_getElem (by omega),Option.getD_some]
   exact List.getElem_mem _
  unfold nodeB numOk nameOk
  simp [kidsOf,kidsIn,hv]
 rw [if_neg c2]
 by_cases c3 : op = 3
 ·rw [if_pos c3]
  refine ⟨_,[],i,h,by rw [List.append_nil],by simp,hi,rfl,?_⟩
  subst c3
  unfold nodeB numOk nameOk
  simp [kidsOf,kidsIn]
 rw [if_neg c3,l04Kids_is,Option.bind_some]
 have hkp : kidsOf op = 1 ∨ kidsOf op = 2:=by unfold kidsOf;rw [if_neg (by omega)];split <;> omega
 obtain ⟨n,hn,hn1,hn2⟩ : ∃ n : Nat,kidsOf op = (n : Int) ∧ 1 ≤ n ∧ n ≤ 2:=by
  rcases hkp with e | e
  ·exact ⟨1,e,by omega,by omega⟩
  ·exact ⟨2,e,by omega,by omega⟩
 have hnm : n * m ≤ 2 * m:=Nat.mul_le_mul_right m hn2
 obtain ⟨new,ks,i1,h1,e,hle,ha,hnb,hks,hc⟩:=madeKids_is b rec m (out.length + 2 * m + 1) (by omega) (hrec (by omega)) n n 4 0 [] i h out (by omega) (by omega) (by omega) (by simp) hi (by omega) (fun _ => trivial) (by simp) hn2
 rw [hn]
 rw [show ((0 : Nat) : Int) = 0 from rfl] at e
 rw [e,Option.bind_some]
 refine ⟨_,new,i1,h1,rfl,by omega,ha,hnb,?_⟩
 rw [List.length_append] at hc
 rw [List.length_nil,Nat.zero_add] at hks
 unfold nodeB numOk nameOk
 have hkl : ((ks.length : Nat) : Int) = kidsOf op:=by rw [hn,hks]
 have hki : kidsIn (out.length + new.length) ks = true:=by
  unfold kidsIn
  rw [List.all_eq_true]
  intro c hcc
  have:=hc c hcc
  unfold kidIn
  simp only [decide_eq_true_eq]
  omega
 simp [hkl,hki,o1,o2,c1,c2]
theorem made_is (b : List Int) (d : Nat) : ∀ (k : Nat) (i h : Int) (out : List S34),d < k → d ≤ 5 → At b i → out.length + 2 ^ (d + 1) < 1000 →
  MadeOk b (2 ^ (d + 1) - 1) out (spec_l04Made.f k b nm3 (d : Int) i h out):=by
 induction d with
 | zero =>
  intro k i h out hk _ hi hl
  obtain ⟨k,rfl⟩ : ∃ q,k = q + 1:=⟨k - 1,by omega⟩
  rw [spec_l04Made.f]
  obtain ⟨op,i1,h1,e1,a1,o1,o2,o3⟩:=madeOp_is b _ i h hi
  rw [e1,Option.bind_some]
  obtain ⟨x,new,i2,h2,e2,hle,a2,hnb,hx⟩:=madeSw_is b (fun i h out => spec_l04Made.f k b nm3 (wrap64 (((0 : Nat) : Int) - 1)) i h out) 0 op i1 h1 out a1 o1 o2 (by omega) (fun h3 => absurd (o3 (by omega)) (by omega))
  rw [e2,Option.bind_some]
  have hn0 : new = []:=List.length_eq_zero_iff.1 (by omega)
  subst hn0
  rw [List.append_nil]
  exact madeFin_is b out x i2 h2 a2 (by omega) (by simpa using hx)
 | succ d ih =>
  intro k i h out hk hd hi hl
  obtain ⟨k,rfl⟩ : ∃ q,k = q + 1:=⟨k - 1,by omega⟩
  rw [spec_l04Made.f]
  obtain ⟨op,i1,h1,e1,a1,o1,o2,o3⟩:=madeOp_is b _ i h hi
  rw [e1,Option.bind_some]
  have hpw : 2 ^ (d + 1 + 1) = 2 * 2 ^ (d + 1):=by rw [Nat.pow_succ,Nat.mul_comm]
  have hp1 : 1 ≤ 2 ^ (d + 1):=Nat.one_le_two_pow
  obtain ⟨x,new,i2,h2,e2,hle,a2,hnb,hx⟩:=madeSw_is b (fun i h out => spec_l04Made.f k b nm3 (wrap64 (((d + 1 : Nat) : Int) - 1)) i h out) (2 ^ (d + 1) - 1) op i1 h1 out a1 o1 o2 (by omega) (fun _ j g out' hj hl' => by
   show MadeOk b _ out' (spec_l04Made.f k b nm3 (wrap64 (((d + 1 : Nat) : Int) - 1)) j g out')
   rw [w64 (by omega) (by omega),show ((d + 1 : Nat) : Int) - 1 = (d : Int) from by omega]
   exact ih k j g out' (by omega) (by omega) hj (by omega))
  rw [e2,Option.bind_some]
  obtain ⟨new2,r,i3,h3,e3,hp,hl3,hr,a3,hnb3⟩:=madeFin_is b (out ++ new) x i2 h2 a2 (by rw [List.length_append];omega) (by rw [List.length_append];exact hx)
  refine ⟨new ++ new2,r,i3,h3,by rw [← List.append_assoc];exact e3,by rw [List.length_append];omega,by rw [List.length_append];omega,by rw [← List.append_assoc];exact hr,a3,?_⟩
  rw [nodesB_append,hnb]
  rw [List.length_append] at hnb3
  rw [hnb3]
  rfl
theorem l04Expr_is (b : List Int) (i h : Int) (hi : At b i) : ∃ xs i' h',spec_l04Expr.f b i h [(⟨#[97]⟩ : ByteArray),(⟨#[98]⟩ : ByteArray),(⟨#[110]⟩ : ByteArray)] 2 = some (xs,i',h') ∧ exprOkB xs = true ∧ xs.length ≤ 7 ∧ At b i':=by
 unfold spec_l04Expr.f
 obtain ⟨new,r,i',h',e,hp,hl,hr,ha,hnb⟩:=made_is b 2 4 i h [] (by omega) (by omega) hi (by simp)
 show ∃ xs i' h',((spec_l04Made.f 4 b nm3 ((2 : Nat) : Int) i h []).bind _ : Option _) = _ ∧ _
 rw [e,Option.bind_some]
 refine ⟨new,i',h',rfl,?_,by simpa using hl,ha⟩
 unfold exprOkB
 rw [Bool.and_eq_true]
 refine ⟨hnb,decide_eq_true ?_⟩
 have : new.length ≤ 7:=by simpa using hl
 omega
def Small7 (xs : List S34) : Prop:=xs.length ≤ 7 ∧ ∀ y ∈ xs,y.f2.size ≤ 4 ∧ y.f3.length ≤ 2
theorem okB_small {xs : List S34} (h : exprOkB xs = true) (hl : xs.length ≤ 7) : Small7 xs:=by
 refine ⟨hl,fun y hy => ?_⟩
 obtain ⟨i,hi,rfl⟩:=List.getElem_of_mem hy
 have h1 : nodesB 0 xs = true:=by
  unfold exprOkB at h
  rw [Bool.and_eq_true] at h
  exact h.1
 have h2:=nodesB_at xs 0 h1 i hi
 unfold nodeB at h2
 simp only [Bool.and_eq_true,decide_eq_true_eq] at h2
 obtain ⟨⟨⟨⟨a,b⟩,_⟩,hn⟩,d⟩:=h2
 refine ⟨?_,by unfold kidsOf at b;split at b <;> (try split at b) <;> omega⟩
 unfold nameOk at hn
 split at hn
 ·unfold varNameB at hn
  rw [Bool.and_eq_true,decide_eq_true_eq] at hn
  omega
 ·have e:=of_decide_eq_true hn
  have : xs[i].f2.toList.length = 0:=by rw [e];rfl
  rw [ByteArray.toList_eq,Array.length_toList] at this
  have h3 : xs[i].f2.size = 0:=this
  omega
theorem Small7.set {xs : List S34} (h : Small7 xs) (i : Nat) (y : S34) (hy : y.f2.size ≤ 4 ∧ y.f3.length ≤ 2) : Small7 (xs.set i y):=by
 refine ⟨by rw [List.length_set];exact h.1,fun z hz => ?_⟩
 rcases List.mem_or_eq_of_mem_set hz with hz | rfl
 ·exact h.2 z hz
 ·exact hy
theorem Small7.rd {xs : List S34} (h : Small7 xs) (i : Int) : (rd_T34 xs i).f2.size ≤ 4 ∧ (rd_T34 xs i).f3.length ≤ 2:=by
 unfold rd_T34
 rw [List.getD_eq_getElem?_getD]
 by_cases c : i.toNat < xs.length
 ·rw [List.getElem?_eq_getElem c,Option.getD_some]
  exact h.2 _ (List.getElem_mem c)
 ·rw [List.getElem?_eq_none (by omega)]
  exact ⟨by decide,by decide⟩
theorem Small7.x {xs : List S34} (h : Small7 xs) : smallX xs:=⟨by have:=h.1;omega,fun y hy => by have:=h.2 y hy;omega⟩
theorem l04Any_is (b : List Int) (i h : Int) (hi : At b i) : ∃ xs i' h',spec_l04Any.f b i h = some (xs,i',h') ∧ Small7 xs ∧ At b i':=by
 unfold spec_l04Any.f
 obtain ⟨q,i1,h1,e1,hq,a1⟩:=l01Below_is b i h hi 16 (by omega)
 rw [e1,Option.bind_some]
 obtain ⟨xs,i2,h2,e2,ho,hl,a2⟩:=l04Expr_is b i1 h1 a1
 show ∃ xs i' h',((spec_l04Expr.f b i1 h1 _ 2).bind _ : Option _) = _ ∧ _
 rw [e2,Option.bind_some,Option.bind_some,if_pos (by simp only [List.length_nil];omega),Option.bind_some,List.nil_append]
 have hs:=okB_small ho hl
 have hp:=expr_pos ho
 obtain ⟨n,i3,h3,e3,hn,a3⟩:=l01Below_is b i2 h2 a2 (xs.length : Int) (by omega)
 show ∃ xs' i' h',((spec_l01Below.f b i2 h2 (xs.length : Int)).bind _ : Option _) = _ ∧ _
 rw [e3,Option.bind_some]
 by_cases c0 : q = 0
 ·rw [if_pos c0]
  obtain ⟨m,i4,h4,e4,hm,a4⟩:=l01Below_is b i3 h3 a3 13 (by omega)
  show ∃ xs' i' h',((spec_l01Below.f b i3 h3 13).bind _ : Option _) = _ ∧ _
  rw [e4,Option.bind_some,if_pos hn.1,if_pos hn.2]
  exact ⟨_,_,_,rfl,hs.set _ _ (hs.rd n),a4⟩
 rw [if_neg c0]
 by_cases c1 : q = 1
 ·rw [if_pos c1]
  obtain ⟨m,i4,h4,e4,hm,a4⟩:=l01PickInt_is b i3 h3 a3 [(-1),5,99,100] (by simp)
  show ∃ xs' i' h',((spec_l01PickInt.f b i3 h3 [(-1),5,99,100]).bind _ : Option _) = _ ∧ _
  rw [e4,Option.bind_some,if_pos hn.1,if_pos hn.2]
  exact ⟨_,_,_,rfl,hs.set _ _ (hs.rd n),a4⟩
 rw [if_neg c1]
 by_cases c2 : q = 2
 ·rw [if_pos c2]
  obtain ⟨m,i4,h4,e4,hm,a4⟩:=l01PickInt_is b i3 h3 a3 [(-1),0,n] (by simp)
  show ∃ xs' i' h',((spec_l01PickInt.f b i3 h3 [(-1),0,n]).bind _ : Option _) = _ ∧ _
  rw [e4,Option.bind_some,if_pos hn.1,if_pos hn.2]
  exact ⟨_,_,_,rfl,hs.set _ _ ⟨(hs.rd n).1,by simp⟩,a4⟩
 rw [if_neg c2]
 by_cases c3 : q = 3
 ·rw [if_pos c3]
  obtain ⟨m,i4,h4,e4,hm,a4⟩:=l01Pick_is b i3 h3 a3 [(⟨#[]⟩ : ByteArray),(⟨#[97]⟩ : ByteArray),(⟨#[65]⟩ : ByteArray)] (by simp)
  show ∃ xs' i' h',((spec_l01Pick.f b i3 h3 [(⟨#[]⟩ : ByteArray),(⟨#[97]⟩ : ByteArray),(⟨#[65]⟩ : ByteArray)]).bind _ : Option _) = _ ∧ _
  rw [e4,Option.bind_some,if_pos hn.1,if_pos hn.2]
  refine ⟨_,_,_,rfl,hs.set _ _ ⟨?_,(hs.rd n).2⟩,a4⟩
  simp only [List.mem_cons,List.not_mem_nil,or_false] at hm
  show m.size ≤ 4
  rcases hm with rfl | rfl | rfl <;> decide
 rw [if_neg c3]
 by_cases c4 : q = 4
 ·rw [if_pos c4]
  exact ⟨_,_,_,rfl,⟨by simp,by simp⟩,a3⟩
 ·rw [if_neg c4]
  exact ⟨_,_,_,rfl,hs,a3⟩
theorem drawPlaces_l0 (b : List Int) (d : Nat) : ∀ (k i : Nat) (p : List Int) (j h : Int),12 - i ≤ d → d < k → i ≤ 12 → p.length = i → (∀ x ∈ p,0 ≤ x ∧ x < 10000) → At b j →
  ∃ q,spec_DrawPlaces.l0 k p (i : Int) b j h = some q ∧ q.length = 12 ∧ ∀ x ∈ q,0 ≤ x ∧ x < 10000:=by
 induction d with
 | zero =>
  intro k i p j h hd hk hi hl hp ha
  obtain ⟨k,rfl⟩ : ∃ m,k = m + 1:=⟨k - 1,by omega⟩
  rw [spec_DrawPlaces.l0,if_neg (by omega)]
  exact ⟨_,rfl,by omega,hp⟩
 | succ d ih =>
  intro k i p j h hd hk hi hl hp ha
  obtain ⟨k,rfl⟩ : ∃ m,k = m + 1:=⟨k - 1,by omega⟩
  by_cases c : (i : Int) < 12
  ·obtain ⟨r,j',h',e,hr,ha'⟩:=l01Below_is b j h ha 10000 (by omega)
   rw [spec_DrawPlaces.l0,if_pos c,e,Option.bind_some,if_pos (by omega),w64_len (n:=12) (by omega) (by omega)]
   refine ih k (i + 1) _ _ _ (by omega) (by omega) (by omega) (by simp;omega) ?_ ha'
   intro x hx
   rw [List.mem_append,List.mem_singleton] at hx
   rcases hx with hx | rfl
   ·exact hp x hx
   ·exact hr
  ·rw [spec_DrawPlaces.l0,if_neg c]
   exact ⟨_,rfl,by omega,hp⟩
theorem drawPlaces_is (b : List Int) (hb : b.length ≤ 140737488351232) (k : Nat) (hk : 4001 ≤ k) : ∃ q,spec_DrawPlaces.f k b = some q ∧ q.length = 12 ∧ ∀ x ∈ q,0 ≤ x ∧ x < 10000:=by
 unfold spec_DrawPlaces.f
 obtain ⟨h,e⟩:=l01New_is b hb k hk
 have ha : At b 0:=⟨hb,by omega,by omega⟩
 obtain ⟨r,j',h',e2,hr,ha'⟩:=l01Byte_is b 0 h ha
 rw [e,Option.bind_some]
 obtain ⟨q,hq⟩:=drawPlaces_l0 b 12 k 0 [] j' h' (by omega) (by omega) (by omega) rfl (by simp) ha'
 refine ⟨q,?_,hq.2⟩
 show (spec_l01Byte.f b 0 h).bind _ = _
 rw [e2,Option.bind_some]
 exact hq.1
theorem rdI' (xs : List S87) (i : Nat) (h : i < xs.length) : rd_T87 xs (i : Int) = xs[i]:=by simp [rd_T87,List.getD,h]
def envGetL (s : ByteArray) : List S87 → Int × Bool
 | [] => (0,false)
 | v :: l => if v.f0 = s then (v.f1,true) else envGetL s l
def numB (n : Int) : Bool:=decide (-9999 ≤ n ∧ n ≤ 9999)
def rdB (m : List Bool) (i : Int) : Bool:=rdOf false m i
def markKids (m : List Bool) (ks : List Int) : List Bool:=ks.foldl (fun m c => m.set c.toNat true) m
theorem markKids_length (ks : List Int) : ∀ m : List Bool,(markKids m ks).length = m.length:=by
 induction ks with
 | nil => intro m;rfl
 | cons c ks ih => intro m;show (markKids (m.set c.toNat true) ks).length = _;rw [ih,List.length_set]
def markStep (xs : List S34) (m : List Bool) (i : Nat) : List Bool:=if rdB m (i : Int) then markKids m (xs.getD i z34).f3 else m
theorem markStep_length (xs : List S34) (m : List Bool) (i : Nat) : (markStep xs m i).length = m.length:=by
 unfold markStep;split
 ·exact markKids_length _ _
 ·rfl
def marksGo (xs : List S34) : Nat → List Bool → List Bool
 | 0,m => m
 | n + 1,m => marksGo xs n (markStep xs m n)
theorem marksGo_length (xs : List S34) (n : Nat) : ∀ m : List Bool,(marksGo xs n m).length = m.length:=by
 induction n with
 | zero => intro m;rfl
 | succ n ih => intro m;show (marksGo xs n (markStep xs m n)).length = _;rw [ih,markStep_length]
def marksR (xs : List S34) : List Bool:=marksGo xs xs.length ((List.replicate xs.length false).set (xs.length - 1) true)
theorem marksR_length (xs : List S34) : (marksR xs).length = xs.length:=by unfold marksR;rw [marksGo_length];simp
def flagR (b : Bool) : Int:=if b then 1 else 0
def reckonR (op a b : Int) : Int × Bool :=
 if op = 4 then (wrap64 (a + b),true) else if op = 5 then (wrap64 (a - b),true) else if op = 6 then (wrap64 (a * b),true)
 else if op = 8 then (flagR (decide (a < b)),true) else if op = 9 then (flagR (a == b),true) else if op = 10 then (flagR (a != 0 && b != 0),true)
 else if op = 11 then (flagR (a == 0),true) else if b = 0 then (0,false) else (wrap64 (Int.tdiv a b),true)
def nodeVal (env : List S87) (here : Int) (nums : List Int) (y : S34) : Int × Bool :=
 if y.f0 = 1 then (y.f1,true) else if y.f0 = 2 then envGetL y.f2 env else if y.f0 = 3 then (here,true)
 else reckonR y.f0 (rd nums (rd y.f3 0)) (rd nums (rd y.f3 ((y.f3.length : Int) - 1)))
def evalGo (env : List S87) (here : Int) (m : List Bool) : Nat → List Int → List S34 → Int × Bool
 | _,nums,[] => (rd nums ((nums.length : Int) - 1),true)
 | i,nums,y :: l => if rdB m (i : Int) then (if (nodeVal env here nums y).2 && numB (nodeVal env here nums y).1 then evalGo env here m (i + 1) (nums.set i (nodeVal env here nums y).1) l else (0,false)) else evalGo env here m (i + 1) nums l
def evalR (xs : List S34) (env : List S87) (here : Int) : Int × Bool :=
 if exprOkB xs then evalGo env here (marksR xs) 0 (List.replicate xs.length 0) xs else (0,false)
theorem rdB_at (m : List Bool) (i : Nat) (h : i < m.length) : rdB m (i : Int) = m[i]:=by simp [rdB,rdOf,List.getD,h]
theorem rdB_set_ne (m : List Bool) (i j : Nat) (v : Bool) (h : i ≠ j) : rdB (m.set j v) (i : Int) = rdB m (i : Int):=by
 simp [rdB,rdOf,List.getD,List.getElem?_set_ne (Ne.symm h)]
theorem mulOk (m m2 : Int) (op : Int) (ho : op = 6 ∨ op = 7) (hm : 0 ≤ m ∧ m ≤ 99) (hm2 : 0 ≤ m2 ∧ m2 ≤ 99) : exprOkB [(⟨1,m,(⟨#[]⟩ : ByteArray),[]⟩ : S34),⟨1,m2,(⟨#[]⟩ : ByteArray),[]⟩,⟨op,0,(⟨#[]⟩ : ByteArray),[0,1]⟩] = true:=by
 have h1 : decide (0 ≤ m ∧ m ≤ 99) = true:=decide_eq_true hm
 have h2 : decide (0 ≤ m2 ∧ m2 ≤ 99) = true:=decide_eq_true hm2
 rcases ho with rfl | rfl <;> simp [exprOkB,nodesB,nodeB,numOk,nameOk,kidsOf,kidsIn,kidIn,h1,h2,hm.1,hm.2,hm2.1,hm2.2]
theorem eval_mul : evalR [(⟨1,99,(⟨#[]⟩ : ByteArray),[]⟩ : S34),⟨1,99,(⟨#[]⟩ : ByteArray),[]⟩,⟨6,0,(⟨#[]⟩ : ByteArray),[0,1]⟩] [] 0 = (9801,true):=by
 unfold evalR
 rw [if_pos (mulOk 99 99 6 (.inl rfl) (by omega) (by omega))]
 decide +kernel
theorem eval_div (m : Int) (hm : 0 ≤ m ∧ m ≤ 99) : evalR [(⟨1,m,(⟨#[]⟩ : ByteArray),[]⟩ : S34),⟨1,0,(⟨#[]⟩ : ByteArray),[]⟩,⟨7,0,(⟨#[]⟩ : ByteArray),[0,1]⟩] [] 0 = (0,false):=by
 unfold evalR
 rw [if_pos (mulOk m 0 7 (.inr rfl) hm (by omega))]
 have hn : numB m = true:=by unfold numB;exact decide_eq_true (by omega)
 have hmk : marksR [(⟨1,m,(⟨#[]⟩ : ByteArray),[]⟩ : S34),⟨1,0,(⟨#[]⟩ : ByteArray),[]⟩,⟨7,0,(⟨#[]⟩ : ByteArray),[0,1]⟩] = [true,true,true]:=rfl
 rw [hmk]
 show (if true = true then (if (true && numB m) = true then _ else _) else _) = _
 rw [if_pos rfl,hn,if_pos (by rfl)]
 rfl
theorem eval_var : evalR [(⟨2,0,(⟨#[97]⟩ : ByteArray),[]⟩ : S34)] [] 0 = (0,false):=by
 unfold evalR
 split <;> rfl
theorem eval_here (m : Int) (hm : 0 ≤ m ∧ m ≤ 11) : evalR [(⟨3,0,(⟨#[]⟩ : ByteArray),[]⟩ : S34)] [] m = (m,true):=by
 have hn : numB m = true:=by unfold numB;exact decide_eq_true (by omega)
 unfold evalR
 rw [if_pos (by simp [exprOkB,nodesB,nodeB,numOk,nameOk,kidsOf,kidsIn,kidIn])]
 show (if true = true then (if (true && numB m) = true then _ else _) else _) = _
 rw [if_pos rfl,hn,if_pos (by rfl)]
 rfl
theorem eval_big : evalR [(⟨1,99,(⟨#[]⟩ : ByteArray),[]⟩ : S34),⟨1,99,(⟨#[]⟩ : ByteArray),[]⟩,⟨6,0,(⟨#[]⟩ : ByteArray),[0,1]⟩,⟨1,99,(⟨#[]⟩ : ByteArray),[]⟩,⟨6,0,(⟨#[]⟩ : ByteArray),[2,3]⟩] [] 0 = (0,false):=by
 unfold evalR
 rw [if_pos (by simp [exprOkB,nodesB,nodeB,numOk,nameOk,kidsOf,kidsIn,kidIn])]
 decide +kernel
theorem isSmall_is (s : ByteArray) (i : Int) : impl_isSmall.f (bt s i) = some (decide (97 ≤ bt s i ∧ bt s i ≤ 122)):=by
 unfold impl_isSmall.f
 rw [w64_bt,within_is];rfl
theorem implVarName_l0 (s : ByteArray) (hs : s.size ≤ 140737488351232) (d : Nat) : ∀ (k i : Nat),s.size - i ≤ d → d < k →
  impl_VarName.l0 k s (s.size : Int) (i : Int) = some (((bs s).drop i).all small && decide (1 ≤ (s.size : Int) ∧ (s.size : Int) ≤ 4)):=by
 induction d with
 | zero =>
  intro k i hd hk
  obtain ⟨k,rfl⟩ : ∃ m,k = m + 1:=⟨k - 1,by omega⟩
  simp only [impl_VarName.l0]
  rw [if_neg (by omega),within_is,bs_drop_nil s i (by omega)];simp
 | succ d ih =>
  intro k i hd hk
  obtain ⟨k,rfl⟩ : ∃ m,k = m + 1:=⟨k - 1,by omega⟩
  by_cases hi : i < s.size
  ·have e:=ih k (i + 1) (by omega) (by omega)
   simp only [impl_VarName.l0]
   rw [if_pos (by omega),if_pos (by omega),if_pos (by omega),isSmall_is,Option.bind_some,w64_succ hi hs,e,bs_drop s i hi]
   simp only [List.all_cons]
   by_cases h1 : 97 ≤ bt s i ∧ bt s i ≤ 122
   ·rw [if_pos (by simpa using h1),show small (bt s i) = true from by simp [small];omega];simp
   ·rw [if_neg (by simpa using h1),show small (bt s i) = false from by simp [small];omega];simp
  ·simp only [impl_VarName.l0]
   rw [if_neg (by omega),within_is,bs_drop_nil s i (by omega)];simp
theorem implVarName_is (s : ByteArray) (hs : s.size ≤ 140737488351232) (k : Nat) (hk : s.size < k) : impl_VarName.f k s = some (varNameB s):=by
 unfold impl_VarName.f
 exact implVarName_l0 s hs s.size k 0 (by omega) hk
theorem implKidCount_is (op : Int) : impl_kidCount.f op = some (if 1 ≤ op ∧ op ≤ 11 then kidsOf op else -1):=by
 unfold impl_kidCount.f kidsOf
 rw [within_is,Option.bind_some]
 by_cases h1 : 1 ≤ op ∧ op ≤ 3
 ·rw [if_pos (decide_eq_true h1),if_pos (by omega),if_pos (by omega)]
 ·rw [if_neg (by simpa using h1),within_is,Option.bind_some]
  by_cases h2 : 4 ≤ op ∧ op ≤ 10
  ·rw [if_pos (decide_eq_true h2),if_pos (by omega),if_neg (by omega),if_neg (by omega)]
  ·rw [if_neg (by simpa using h2)]
   by_cases h3 : op = 11
   ·rw [if_pos h3,if_pos (by omega),if_neg (by omega),if_pos h3]
   ·rw [if_neg h3,if_neg (by omega)]
theorem implNode_j0 (op num : Int) (s : ByteArray) (hs : s.size ≤ 1048576) (ks : List Int) (b : Bool) (k : Nat) (hk : 1048577 < k) :
  impl_exNodeOk.j0 k b op num s ks = some (!b && numOk op num && nameOk op s):=by
 obtain ⟨k,rfl⟩ : ∃ m,k = m + 1:=⟨k - 1,by omega⟩
 rw [impl_exNodeOk.j0]
 cases b with
 | true => rw [if_pos (show true = true from rfl)];rfl
 | false =>
  rw [if_neg (by simp),implVarName_is s (by omega) k (by omega),within_is]
  simp only [Option.bind_some,Bool.not_false,Bool.true_and]
  unfold numOk nameOk
  by_cases h2 : op = 2
  ·have h1 : ¬ op = 1:=by omega
   by_cases h0 : num = 0
   ·by_cases he : s.toList = ([] : List UInt8)
    ·simp [h2,h0,he]
    ·simp [h2,h0,he]
   ·by_cases he : s.toList = ([] : List UInt8)
    ·simp [h2,h0,he]
    ·simp [h2,h0,he]
  ·by_cases h1 : op = 1
   ·by_cases h0 : num = 0
    ·by_cases he : s.toList = ([] : List UInt8)
     ·simp [h1,h0,he]
     ·simp [h1,h0,he]
    ·by_cases he : s.toList = ([] : List UInt8)
     ·by_cases hr : 0 ≤ num ∧ num ≤ 99
      ·simp [h1,h0,he,hr]
      ·simp [h1,h0,he,if_neg hr];intro h;omega
     ·by_cases hr : 0 ≤ num ∧ num ≤ 99
      ·simp [h1,h0,he]
      ·simp [h1,h0,he]
   ·by_cases h0 : num = 0
    ·by_cases he : s.toList = ([] : List UInt8)
     ·simp [h1,h2,h0,he]
     ·simp [h1,h2,h0,he]
    ·by_cases he : s.toList = ([] : List UInt8)
     ·simp [h1,h2,h0,he]
     ·simp [h1,h2,h0,he]
theorem implNode_is (i : Nat) (hi : i ≤ 1048576) (y : S34) (hy : y.f2.size ≤ 1048576 ∧ y.f3.length ≤ 1048576) (k : Nat) (hk : 1048577 < k) : impl_exNodeOk.f k y.f0 y.f1 y.f2 y.f3 (i : Int) = some (nodeB i y):=by
 unfold impl_exNodeOk.f nodeB
 rw [implKidCount_is,Option.bind_some]
 by_cases hr : 1 ≤ y.f0 ∧ y.f0 ≤ 11
 ·rw [if_pos hr,show decide (1 ≤ y.f0 ∧ y.f0 ≤ 11) = true from decide_eq_true hr,Bool.true_and]
  by_cases hq : (y.f3.length : Int) = kidsOf y.f0
  ·rw [if_pos hq,implKidsAhead_is y.f3 hy.2 i (by omega) k (by omega),Option.bind_some,implNode_j0 _ _ _ hy.1 _ _ k hk,show decide ((y.f3.length : Int) = kidsOf y.f0) = true from decide_eq_true hq]
   congr 1
   cases kidsIn i y.f3 <;> simp
  ·rw [if_neg hq,implNode_j0 _ _ _ hy.1 _ _ k hk,show decide ((y.f3.length : Int) = kidsOf y.f0) = false from decide_eq_false hq];simp
 ·rw [if_neg hr,show decide (1 ≤ y.f0 ∧ y.f0 ≤ 11) = false from decide_eq_false hr,if_neg (by omega),implNode_j0 _ _ _ hy.1 _ _ k hk];simp
theorem implExprOk_is (xs : List S34) (hz : smallX xs) (k : Nat) (hk : xs.length + 1048578 < k) : impl_ExprOk.f k xs = some (exprOkB xs):=by
 have hl:=hz.1
 have go : ∀ (d k i : Nat),xs.length - i ≤ d → d + 1048578 < k → impl_ExprOk.l0 k xs (xs.length : Int) (i : Int) xs = some (nodesB i (xs.drop i) && decide (1 ≤ (xs.length : Int) ∧ (xs.length : Int) ≤ 20)):=by
  intro d
  induction d with
  | zero =>
   intro k i hd hk
   obtain ⟨k,rfl⟩ : ∃ m,k = m + 1:=⟨k - 1,by omega⟩
   rw [impl_ExprOk.l0,if_neg (by omega),List.drop_eq_nil_of_le (by omega),within_is];rfl
  | succ d ih =>
   intro k i hd hk
   obtain ⟨k,rfl⟩ : ∃ m,k = m + 1:=⟨k - 1,by omega⟩
   by_cases hi : i < xs.length
   ·have hy:=hz.2 _ (List.getElem_mem hi)
    rw [impl_ExprOk.l0,if_pos (by omega),if_pos (by omega),if_pos (by omega),rdE xs i hi,implNode_is i (by omega) _ hy k (by omega),Option.bind_some,w64_len hi (by omega),ih k (i + 1) (by omega) (by omega),drop_get xs i hi]
    simp only [nodesB]
    cases nodeB i xs[i] <;> simp
   ·rw [impl_ExprOk.l0,if_neg (by omega),List.drop_eq_nil_of_le (by omega),within_is];rfl
 unfold impl_ExprOk.f
 exact go xs.length k 0 (by omega) (by omega)
theorem implEnvGet_l0 (xs : List S87) (s : ByteArray) (hl : xs.length ≤ 9223372036854775807) (d : Nat) : ∀ (k i : Nat),xs.length - i ≤ d → d < k → impl_EnvGet.l0 k s xs (xs.length : Int) (i : Int) = some (envGetL s (xs.drop i)):=by
 induction d with
 | zero =>
  intro k i hd hk
  obtain ⟨k,rfl⟩ : ∃ m,k = m + 1:=⟨k - 1,by omega⟩
  rw [impl_EnvGet.l0,if_neg (by omega),List.drop_eq_nil_of_le (by omega)];rfl
 | succ d ih =>
  intro k i hd hk
  obtain ⟨k,rfl⟩ : ∃ m,k = m + 1:=⟨k - 1,by omega⟩
  by_cases hi : i < xs.length
  ·rw [impl_EnvGet.l0,if_pos (by omega),if_pos (by omega),if_pos (by omega),rdI' xs i hi,w64_len hi hl,ih k (i + 1) (by omega) (by omega),drop_get xs i hi]
   simp only [envGetL]
   by_cases h : xs[i].f0 = s
   ·rw [if_pos (toList_eq.2 h),if_pos h]
   ·rw [if_neg (fun e => h (toList_eq.1 e)),if_neg h]
  ·rw [impl_EnvGet.l0,if_neg (by omega),List.drop_eq_nil_of_le (by omega)];rfl
theorem implEnvGet_is (xs : List S87) (s : ByteArray) (hl : xs.length ≤ 9223372036854775807) (k : Nat) (hk : xs.length < k) : impl_EnvGet.f k xs s = some (envGetL s xs):=by
 unfold impl_EnvGet.f
 exact implEnvGet_l0 xs s hl xs.length k 0 (by omega) hk
theorem isNum_is (n : Int) : impl_isNum.f n = some (decide (-9999 ≤ n ∧ n ≤ 9999)):=by
 unfold impl_isNum.f
 rw [within_is];rfl
theorem implReached_l1 (xs : List S34) (hl : xs.length ≤ 20) (i : Nat) (hi : i < xs.length) (ks : List Int) (hr : ∀ c ∈ ks,0 ≤ c ∧ c < (i : Int)) (hkl : ks.length ≤ 2) (r : Nat) : ∀ (k j : Nat) (m : List Bool),ks.length - j = r → j ≤ ks.length → m.length = xs.length →
  impl_reachedNodes.l1 (k + r + 1) m (i : Int) ks (ks.length : Int) (j : Int) xs = impl_reachedNodes.l0 k (if rdB m (i : Int) then markKids m (ks.drop j) else m) (wrap64 ((i : Int) - 1)) xs:=by
 induction r with
 | zero =>
  intro k j m hd hj hm
  rw [impl_reachedNodes.l1,if_neg (by omega),List.drop_eq_nil_of_le (by omega)]
  show _ = impl_reachedNodes.l0 k (if rdB m (i : Int) then m else m) _ _
  rw [ite_self]
 | succ r ih =>
  intro k j m hd hj hm
  have hj2 : j < ks.length:=by omega
  have hc:=hr ks[j] (List.getElem_mem hj2)
  obtain ⟨c,hcn⟩:=Int.eq_ofNat_of_zero_le hc.1
  have hcl : c < m.length:=by omega
  rw [show k + (r + 1) + 1 = (k + r + 1) + 1 from by omega,impl_reachedNodes.l1,if_pos (by omega),if_pos (by omega),if_pos (by omega),rdInt ks j hj2,if_pos hc.1,if_pos (by omega),w64_len hj2 (by omega),drop_get ks j hj2]
  have set_self : rdB m (c : Int) = rdB m (i : Int) → m.set c (rdB m (i : Int)) = m:=by
   intro e
   rw [← e,rdB_at m c hcl]
   exact List.set_getElem_self hcl
  have hmk : markKids m (ks[j] :: ks.drop (j + 1)) = markKids (m.set c true) (ks.drop (j + 1)):=by show markKids (m.set (ks[j]).toNat true) _ = _;rw [show (ks[j]).toNat = c from by omega]
  have hset : ∀ v : Bool,rdB (m.set c v) (i : Int) = rdB m (i : Int):=fun v => rdB_set_ne _ _ _ _ (by omega)
  rw [show (ks[j]).toNat = c from by omega]
  by_cases hb : rdOf false m ks[j] = true
  ·rw [if_pos hb,ih k (j + 1) _ (by omega) (by omega) (by rw [List.length_set];exact hm),hset,hmk]
   by_cases hbi : rdB m (i : Int) = true
   ·rw [if_pos hbi,if_pos hbi]
   ·rw [if_neg hbi,if_neg hbi]
    have hb2 : rdB m (c : Int) = true:=by rw [← hcn];exact hb
    have : m.set c true = m:=by
     rw [rdB_at m c hcl] at hb2
     rw [← hb2]
     exact List.set_getElem_self hcl
    rw [this]
  ·rw [if_neg hb,if_pos (by omega),if_pos (by omega),ih k (j + 1) _ (by omega) (by omega) (by rw [List.length_set];exact hm),hset,hmk]
   by_cases hbi : rdB m (i : Int) = true
   ·rw [if_pos hbi,if_pos hbi,show rdOf false m (i : Int) = true from hbi]
   ·rw [if_neg hbi,if_neg hbi,show rdOf false m (i : Int) = false from (by have h9 : rdB m (i : Int) = false:=(by simpa using hbi);exact h9)]
    have hb2 : rdB m (c : Int) = false:=by rw [← hcn];simpa [rdB] using hb
    have : m.set c false = m:=by
     rw [rdB_at m c hcl] at hb2
     rw [← hb2]
     exact List.set_getElem_self hcl
    rw [this]
theorem implReached_l0 (xs : List S34) (ho : exprOkB xs = true) (n : Nat) : ∀ (m : List Bool),n ≤ xs.length → m.length = xs.length → Ev (fun k => impl_reachedNodes.l0 k m ((n : Int) - 1) xs) (marksGo xs n m):=by
 have hp:=expr_pos ho
 induction n with
 | zero =>
  intro m _ hm
  refine Ev.shift 1 (f:=fun _ => some m) (fun k => ?_) (Ev.now _)
  rw [impl_reachedNodes.l0,if_neg (by omega)]
 | succ n ih =>
  intro m hn hm
  have hi : n < xs.length:=by omega
  have hf:=node_facts ho n hi
  have hkl : xs[n].f3.length ≤ 2:=by have:=hf.2.1;unfold kidsOf at this;split at this <;> (try split at this) <;> omega
  have e:=ih (markStep xs m n) (by omega) (by rw [markStep_length];exact hm)
  have ew : wrap64 ((n : Int) - 1) = (n : Int) - 1:=w64 (by omega) (by omega)
  have hs : markStep xs m n = (if rdB m (n : Int) then markKids m xs[n].f3 else m):=by unfold markStep;simp [List.getD,List.getElem?_eq_getElem hi]
  show Ev _ (marksGo xs n (markStep xs m n))
  refine Ev.shift (xs[n].f3.length + 2) (fun k => ?_) e
  have l1:=implReached_l1 xs hp.2 n hi xs[n].f3 hf.2.2 hkl xs[n].f3.length k 0 m (by omega) (by omega) hm
  rw [List.drop_zero,ew,← hs] at l1
  rw [show k + (xs[n].f3.length + 2) = (k + xs[n].f3.length + 1) + 1 from by omega,impl_reachedNodes.l0,if_pos (by omega),show ((n + 1 : Nat) : Int) - 1 = (n : Int) from by omega,if_pos (by omega),if_pos (by omega),rdE xs n hi]
  exact l1
theorem implReached_ev (xs : List S34) (ho : exprOkB xs = true) : Ev (fun k => impl_reachedNodes.f k xs) (marksR xs):=by
 have hp:=expr_pos ho
 have e:=implReached_l0 xs ho xs.length ((List.replicate xs.length false).set (xs.length - 1) true) (by omega) (by simp)
 refine Ev.congr (fun k => ?_) e
 unfold impl_reachedNodes.f
 rw [if_pos (by omega),if_pos (by omega),Option.bind_some,show ((xs.length : Int)).toNat = xs.length from by omega,w64 (by omega) (by omega),if_pos (by omega),if_pos (by rw [List.length_replicate];omega),show ((xs.length : Int) - 1).toNat = xs.length - 1 from by omega]
theorem implFlag_is (b : Bool) : impl_flag.f b = some (flagR b):=by unfold impl_flag.f flagR;split <;> rfl
theorem implReckon_is (op a b : Int) : impl_reckon.f op a b = some (reckonR op a b):=by
 unfold impl_reckon.f reckonR
 simp only [implFlag_is,Option.bind_some]
 by_cases h4 : op = 4
 ·simp [h4]
 by_cases h5 : op = 5
 ·simp [h5]
 by_cases h6 : op = 6
 ·simp [h6]
 by_cases h8 : op = 8
 ·simp [h8]
 by_cases h9 : op = 9
 ·simp [h9]
 by_cases h10 : op = 10
 ·by_cases ha : a = 0
  ·simp [h10,ha]
  ·have h1 : (a != 0) = true:=bne_iff_ne.2 ha
   simp [h10,ha,h1]
 by_cases h11 : op = 11
 ·simp [h11]
 by_cases hb : b = 0
 ·simp [h4,h5,h6,h8,h9,h10,h11,hb]
 ·simp [h4,h5,h6,h8,h9,h10,h11,hb]
theorem implNodeVal_is (xs : List S34) (ho : exprOkB xs = true) (i : Nat) (hi : i < xs.length) (env : List S87) (hel : env.length ≤ 1048576) (here : Int) (nums : List Int) (hn : nums.length = xs.length) (k : Nat) (hk : env.length < k) :
  impl_evalNode.f k xs[i].f0 xs[i].f1 xs[i].f2 xs[i].f3 nums env here = some (nodeVal env here nums xs[i]):=by
 have hf:=node_facts ho i hi
 unfold impl_evalNode.f nodeVal
 by_cases h1 : xs[i].f0 = 1
 ·rw [if_pos h1,if_pos h1]
 by_cases h2 : xs[i].f0 = 2
 ·rw [if_neg h1,if_neg h1,if_pos h2,if_pos h2,implEnvGet_is env _ (by omega) k hk];rfl
 by_cases h3 : xs[i].f0 = 3
 ·rw [if_neg h1,if_neg h1,if_neg h2,if_neg h2,if_pos h3,if_pos h3]
 have hk1 : 1 ≤ (xs[i].f3.length : Int) ∧ (xs[i].f3.length : Int) ≤ 2:=by rw [hf.2.1];unfold kidsOf;rw [if_neg (by omega)];split <;> omega
 have hc:=hf.2.2 _ (rd_in xs[i].f3 0 (by omega) (by omega))
 have hc1:=hf.2.2 _ (rd_in xs[i].f3 ((xs[i].f3.length : Int) - 1) (by omega) (by omega))
 rw [if_neg h1,if_neg h1,if_neg h2,if_neg h2,if_neg h3,if_neg h3,if_pos (by omega),if_pos hc.1,if_pos (by omega),w64 (by omega) (by omega),if_pos (by omega),if_pos (by omega),if_pos hc1.1,if_pos (by omega),implReckon_is]
 rfl
theorem implEval_l0 (xs : List S34) (ho : exprOkB xs = true) (env : List S87) (hel : env.length ≤ 1048576) (here : Int) (m : List Bool) (hm : m.length = xs.length) (d : Nat) : ∀ (k i : Nat) (nums : List Int),xs.length - i = d → i ≤ xs.length → nums.length = xs.length → env.length + d + 1 < k →
  impl_EvalExpr.l0 k env here nums m (m.length : Int) (i : Int) xs = some (evalGo env here m i nums (xs.drop i)):=by
 have hp:=expr_pos ho
 induction d with
 | zero =>
  intro k i nums hd hi hn hk
  obtain ⟨k,rfl⟩ : ∃ m,k = m + 1:=⟨k - 1,by omega⟩
  rw [impl_EvalExpr.l0,if_neg (by omega),w64 (by omega) (by omega),if_pos (by omega),if_pos (by omega),List.drop_eq_nil_of_le (by omega)];rfl
 | succ d ih =>
  intro k i nums hd hi hn hk
  obtain ⟨k,rfl⟩ : ∃ m,k = m + 1:=⟨k - 1,by omega⟩
  have hi2 : i < xs.length:=by omega
  rw [drop_get xs i hi2]
  show _ = some (if rdB m (i : Int) then (if (nodeVal env here nums xs[i]).2 && numB (nodeVal env here nums xs[i]).1 then evalGo env here m (i + 1) (nums.set i (nodeVal env here nums xs[i]).1) (xs.drop (i + 1)) else (0,false)) else evalGo env here m (i + 1) nums (xs.drop (i + 1)))
  rw [impl_EvalExpr.l0,if_pos (by omega),if_pos (by omega),if_pos (by omega)]
  by_cases hb : rdB m (i : Int) = true
  ·have hb2 : rdOf false m (i : Int) = true:=hb
   rw [if_pos hb,if_pos hb2,if_pos (by omega),rdE xs i hi2,implNodeVal_is xs ho i hi2 env hel here nums hn k (by omega),Option.bind_some]
   by_cases hg : (nodeVal env here nums xs[i]).2 = true
   ·rw [if_pos hg,isNum_is,Option.bind_some,hg,Bool.true_and]
    by_cases hv : numB (nodeVal env here nums xs[i]).1 = true
    ·have hv2 : decide (-9999 ≤ (nodeVal env here nums xs[i]).1 ∧ (nodeVal env here nums xs[i]).1 ≤ 9999) = true:=hv
     rw [if_pos hv,if_pos hv2,if_pos (by omega),w64_len hi2 (by omega),show ((i : Int)).toNat = i from by omega]
     exact ih k (i + 1) _ (by omega) (by omega) (by rw [List.length_set];exact hn) (by omega)
    ·have hv2 : ¬ decide (-9999 ≤ (nodeVal env here nums xs[i]).1 ∧ (nodeVal env here nums xs[i]).1 ≤ 9999) = true:=hv
     rw [if_neg hv,if_neg hv2]
   ·rw [if_neg hg,show (nodeVal env here nums xs[i]).2 = false from by simpa using hg,Bool.false_and,if_neg (by simp)]
  ·have hb2 : ¬ rdOf false m (i : Int) = true:=hb
   rw [if_neg hb,if_neg hb2,w64_len hi2 (by omega)]
   exact ih k (i + 1) nums (by omega) (by omega) hn (by omega)
theorem implEvalExpr_ev (xs : List S34) (hz : smallX xs) (env : List S87) (hel : env.length ≤ 1048576) (here : Int) : Ev (fun k => impl_EvalExpr.f k xs env here) (evalR xs env here):=by
 unfold impl_EvalExpr.f evalR
 refine Ev.bind (Ev.from (xs.length + 1048578) (implExprOk_is xs hz)) ?_
 by_cases ho : exprOkB xs = true
 ·have hp:=expr_pos ho
  rw [if_pos ho]
  refine Ev.congr (f:=fun k => (impl_reachedNodes.f k xs).bind fun t => impl_EvalExpr.l0 k env here (List.replicate xs.length 0) t (t.length : Int) 0 xs) (fun k => ?_) (Ev.bind (implReached_ev xs ho) ?_)
  ·rw [if_pos ho,if_pos (by omega),if_pos (by omega),show ((xs.length : Int)).toNat = xs.length from by omega]
  ·exact Ev.from (env.length + xs.length + 1) (fun k hk => implEval_l0 xs ho env hel here (marksR xs) (marksR_length xs) xs.length k 0 _ (by omega) (by omega) (by simp) hk)
 ·rw [if_neg ho]
  exact Ev.congr (f:=fun _ => some (0,false)) (fun k => if_neg ho) (Ev.now _)
theorem l01In_is (a b c : Int) : spec_l01In.f a b c = some (decide (b ≤ a ∧ a ≤ c)):=by
 unfold spec_l01In.f
 by_cases h : a ≥ b
 ·rw [if_pos h];simp [show b ≤ a from h]
 ·rw [if_neg h];simp [show ¬ b ≤ a from h]
theorem specVarName_l0 (s : ByteArray) (hs : s.size ≤ 140737488351232) (d : Nat) : ∀ (k i : Nat),s.size - i ≤ d → d < k →
  spec_VarName.l0 k s (i : Int) = some (((bs s).drop i).all small && decide (1 ≤ (s.size : Int) ∧ (s.size : Int) ≤ 4)):=by
 induction d with
 | zero =>
  intro k i hd hk
  obtain ⟨k,rfl⟩ : ∃ m,k = m + 1:=⟨k - 1,by omega⟩
  simp only [spec_VarName.l0]
  rw [if_neg (by omega),l01In_is,bs_drop_nil s i (by omega)];simp
 | succ d ih =>
  intro k i hd hk
  obtain ⟨k,rfl⟩ : ∃ m,k = m + 1:=⟨k - 1,by omega⟩
  by_cases hi : i < s.size
  ·have e:=ih k (i + 1) (by omega) (by omega)
   simp only [spec_VarName.l0]
   rw [if_pos (by omega),if_pos (by omega),w64_succ hi hs,e,bs_drop s i hi]
   simp only [List.all_cons]
   by_cases h1 : bt s i < 97
   ·rw [if_pos h1,show small (bt s i) = false from by simp [small];omega];simp
   ·by_cases h2 : bt s i > 122
    ·rw [if_neg h1,if_pos h2,show small (bt s i) = false from by simp [small];omega];simp
    ·rw [if_neg h1,if_neg h2,show small (bt s i) = true from by simp [small];omega];simp
  ·simp only [spec_VarName.l0]
   rw [if_neg (by omega),l01In_is,bs_drop_nil s i (by omega)];simp
theorem specVarName_is (s : ByteArray) (hs : s.size ≤ 140737488351232) (k : Nat) (hk : s.size < k) : spec_VarName.f k s = some (varNameB s):=by
 unfold spec_VarName.f
 exact specVarName_l0 s hs s.size k 0 (by omega) hk
section
variable (xs : List S34) (hz : smallX xs) (i : Nat) (hi : i < xs.length) (op num : Int) (s : ByteArray) (hs : s.size ≤ 1048576) (ks : List Int) (hk : ks.length ≤ 1048576) (r : Bool)
theorem specExpr_l1 (hi : i < 9223372036854775807) (hk : ks.length ≤ 1048576) (hn : Ev (fun k => spec_ExprOk.l0 k (wrap64 ((i : Int) + 1)) xs) r) (d : Nat) : ∀ j : Nat,ks.length - j = d → j ≤ ks.length →
  Ev (fun k => spec_ExprOk.l1 k (i : Int) (j : Int) xs op num s ks) (if kidsIn i (ks.drop j) then r else false):=by
 induction d with
 | zero =>
  intro j hd hj
  rw [List.drop_eq_nil_of_le (show ks.length ≤ j by omega),if_pos (by rfl)]
  refine Ev.shift 1 (fun k => ?_) hn
  rw [spec_ExprOk.l1,if_neg (by omega)]
 | succ d ih =>
  intro j hd hj
  have hj2 : j < ks.length:=by omega
  have e:=ih (j + 1) (by omega) (by omega)
  rw [drop_get ks j hj2,kidsIn_cons]
  by_cases hc : kidIn i ks[j] = true
  ·rw [hc,Bool.true_and]
   refine Ev.shift 1 (fun k => ?_) e
   have hc2 : decide (0 ≤ ks[j] ∧ ks[j] ≤ (i : Int) - 1) = true:=hc
   rw [spec_ExprOk.l1,if_pos (by omega),if_pos (by omega),rdInt ks j hj2,l01In_is,Option.bind_some,w64 (n:=(i : Int) - 1) (by omega) (by omega),hc2,if_pos (show true = true from rfl),w64_len hj2 (by omega)]
  ·have hc' : kidIn i ks[j] = false:=by simpa using hc
   rw [hc',Bool.false_and,if_neg (by simp)]
   refine Ev.shift 1 (f:=fun _ => some false) (fun k => ?_) (Ev.now _)
   have hc2 : decide (0 ≤ ks[j] ∧ ks[j] ≤ (i : Int) - 1) = false:=hc'
   rw [spec_ExprOk.l1,if_pos (by omega),if_pos (by omega),rdInt ks j hj2,l01In_is,Option.bind_some,w64 (n:=(i : Int) - 1) (by omega) (by omega),hc2,if_neg (by simp)]
theorem specExpr_j2 (hi : i < 9223372036854775807) (hk : ks.length ≤ 1048576) (hn : Ev (fun k => spec_ExprOk.l0 k (wrap64 ((i : Int) + 1)) xs) r) (b : Bool) :
  Ev (fun k => spec_ExprOk.j2 k (i : Int) b xs op num s ks) (if !b && kidsIn i ks then r else false):=by
 cases b with
 | true =>
  refine Ev.shift 1 (f:=fun _ => some false) (fun k => ?_) (Ev.now _)
  rw [spec_ExprOk.j2,if_pos (show true = true from rfl)]
 | false =>
  have e:=specExpr_l1 xs i op num s ks r hi hk hn ks.length 0 (by omega) (by omega)
  rw [List.drop_zero] at e
  refine Ev.shift 1 (fun k => ?_) e
  rw [spec_ExprOk.j2,if_neg (by simp)];rfl
theorem specExpr_j1 (hi : i < 9223372036854775807) (hk : ks.length ≤ 1048576) (hs : s.size ≤ 1048576) (hn : Ev (fun k => spec_ExprOk.l0 k (wrap64 ((i : Int) + 1)) xs) r) (b : Bool) :
  Ev (fun k => spec_ExprOk.j1 k (i : Int) b xs op num s ks) (if !b && numOk op num && nameOk op s && kidsIn i ks then r else false):=by
 have J:=specExpr_j2 xs i op num s ks r hi hk hn
 have hv : Ev (fun k => spec_VarName.f k s) (varNameB s):=Ev.from s.size (fun k hk => specVarName_is s (by omega) k hk)
 cases b with
 | true =>
  refine Ev.shift 1 (f:=fun _ => some false) (fun k => ?_) (Ev.now _)
  rw [spec_ExprOk.j1,if_pos (show true = true from rfl)]
 | false =>
  have name : ∀ c : Bool,c = true → Ev (fun k => if op = 2 then ((spec_VarName.f k s).bind fun t => (if t = true then spec_ExprOk.j2 k (i : Int) false xs op num s ks else spec_ExprOk.j2 k (i : Int) true xs op num s ks)) else spec_ExprOk.j2 k (i : Int) (s.toList != ([] : List UInt8)) xs op num s ks) (if nameOk op s && kidsIn i ks then r else false):=by
   intro _ _
   by_cases h2 : op = 2
   ·refine Ev.congr (fun k => if_pos h2) (Ev.bind hv ?_)
    have hnm : nameOk op s = varNameB s:=by unfold nameOk;rw [if_pos h2]
    rw [hnm]
    by_cases hb : varNameB s = true
    ·rw [hb];exact Ev.congr (fun k => if_pos rfl) (J false)
    ·rw [show varNameB s = false from by simpa using hb];exact Ev.congr (fun k => if_neg (by simp)) (J true)
   ·refine Ev.congr (fun k => if_neg h2) ?_
    have hnm : nameOk op s = !(s.toList != ([] : List UInt8)):=by unfold nameOk;rw [if_neg h2,bne_nil,Bool.not_not]
    rw [hnm]
    exact J _
  by_cases h1 : op = 1
  ·have hnum : numOk op num = decide (0 ≤ num ∧ num ≤ 99):=by unfold numOk;rw [if_pos h1]
   refine Ev.shift 1 (f:=fun k => (spec_l01In.f num 0 99).bind fun t => (if t = true then (if op = 2 then ((spec_VarName.f k s).bind fun t => (if t = true then spec_ExprOk.j2 k (i : Int) false xs op num s ks else spec_ExprOk.j2 k (i : Int) true xs op num s ks)) else spec_ExprOk.j2 k (i : Int) (s.toList != ([] : List UInt8)) xs op num s ks) else spec_ExprOk.j2 k (i : Int) true xs op num s ks)) (fun k => ?_) ?_
   ·rw [spec_ExprOk.j1,if_neg (by simp),if_pos h1]
   ·rw [l01In_is,hnum]
    simp only [Option.bind_some,Bool.not_false,Bool.true_and]
    by_cases hb : decide (0 ≤ num ∧ num ≤ 99) = true
    ·rw [hb];exact Ev.congr (fun k => if_pos rfl) (name true rfl)
    ·rw [show decide (0 ≤ num ∧ num ≤ 99) = false from by simpa using hb];exact Ev.congr (fun k => if_neg (by simp)) (J true)
  ·have hnum : numOk op num = decide (num = 0):=by unfold numOk;rw [if_neg h1]
   by_cases h0 : num = 0
   ·refine Ev.shift 1 (f:=fun k => if op = 2 then ((spec_VarName.f k s).bind fun t => (if t = true then spec_ExprOk.j2 k (i : Int) false xs op num s ks else spec_ExprOk.j2 k (i : Int) true xs op num s ks)) else spec_ExprOk.j2 k (i : Int) (s.toList != ([] : List UInt8)) xs op num s ks) (fun k => ?_) ?_
    ·rw [spec_ExprOk.j1,if_neg (by simp),if_neg h1,if_pos h0]
    ·rw [hnum,show decide (num = 0) = true from decide_eq_true h0]
     exact name true rfl
   ·refine Ev.shift 1 (f:=fun k => spec_ExprOk.j2 k (i : Int) true xs op num s ks) (fun k => ?_) ?_
    ·rw [spec_ExprOk.j1,if_neg (by simp),if_neg h1,if_neg h0]
    ·rw [hnum,show decide (num = 0) = false from decide_eq_false h0]
     exact J true
end
theorem specKids_ev (op : Int) : Ev (fun k => spec_l04Kids.f k op) (kidsOf op):=by
 have j : ∀ b : Bool,Ev (fun k => spec_l04Kids.j0 k op b) (if b then 0 else if op = 11 then 1 else 2):=by
  intro b
  refine Ev.shift 1 (f:=fun _ => some (if b then 0 else if op = 11 then 1 else 2)) (fun k => ?_) (Ev.now _)
  rw [spec_l04Kids.j0]
  cases b <;> simp
  split <;> rfl
 unfold spec_l04Kids.f kidsOf
 by_cases h1 : op = 1
 ·rw [if_pos (.inl h1)]
  have e:=j (op == 1)
  rw [show (op == 1) = true from by simpa using h1] at e
  exact Ev.congr (fun k => by rw [if_pos h1,show (op == 1) = true from by simpa using h1]) e
 ·by_cases h2 : op = 2
  ·rw [if_pos (.inr (.inl h2))]
   have e:=j (op == 2)
   rw [show (op == 2) = true from by simpa using h2] at e
   exact Ev.congr (fun k => by rw [if_neg h1,if_pos h2,show (op == 2) = true from by simpa using h2]) e
  ·by_cases h3 : op = 3
   ·rw [if_pos (.inr (.inr h3))]
    have e:=j (op == 3)
    rw [show (op == 3) = true from by simpa using h3] at e
    exact Ev.congr (fun k => by rw [if_neg h1,if_neg h2,show (op == 3) = true from by simpa using h3]) e
   ·rw [if_neg (by rintro (h | h | h) <;> contradiction)]
    have e:=j (op == 3)
    rw [show (op == 3) = false from by simpa using h3] at e
    exact Ev.congr (fun k => by rw [if_neg h1,if_neg h2,show (op == 3) = false from by simpa using h3]) e
theorem specExpr_l0 (xs : List S34) (hz : smallX xs) (d : Nat) : ∀ i : Nat,xs.length - i = d → i ≤ xs.length →
  Ev (fun k => spec_ExprOk.l0 k (i : Int) xs) (nodesB i (xs.drop i) && decide (1 ≤ (xs.length : Int) ∧ (xs.length : Int) ≤ 20)):=by
 have hl:=hz.1
 induction d with
 | zero =>
  intro i hd hi
  refine Ev.shift 1 (f:=fun _ => some _) (fun k => ?_) (Ev.now _)
  rw [spec_ExprOk.l0,if_neg (by omega),List.drop_eq_nil_of_le (by omega),l01In_is];rfl
 | succ d ih =>
  intro i hd hi
  have hi2 : i < xs.length:=by omega
  have e:=ih (i + 1) (by omega) (by omega)
  have hy:=hz.2 _ (List.getElem_mem hi2)
  rw [← w64_len hi2 (by omega)] at e
  have J:=specExpr_j1 xs i xs[i].f0 xs[i].f1 xs[i].f2 xs[i].f3 _ (by omega) hy.2 hy.1 e
  rw [drop_get xs i hi2]
  refine Ev.shift 1 (f:=fun k => (spec_l01In.f xs[i].f0 1 11).bind fun t => (if t = true then ((spec_l04Kids.f k xs[i].f0).bind fun t2 => (spec_ExprOk.j1 k (i : Int) (((xs[i].f3.length : Int)) != t2) xs xs[i].f0 xs[i].f1 xs[i].f2 xs[i].f3)) else (spec_ExprOk.j1 k (i : Int) true xs xs[i].f0 xs[i].f1 xs[i].f2 xs[i].f3))) (fun k => ?_) ?_
  ·rw [spec_ExprOk.l0,if_pos (by omega),if_pos (by omega),rdE xs i hi2]
  ·rw [l01In_is]
   simp only [Option.bind_some]
   have hgoal : (nodesB i (xs[i] :: xs.drop (i + 1)) && decide (1 ≤ (xs.length : Int) ∧ (xs.length : Int) ≤ 20)) = (if nodeB i xs[i] then nodesB (i + 1) (xs.drop (i + 1)) && decide (1 ≤ (xs.length : Int) ∧ (xs.length : Int) ≤ 20) else false):=by
    simp only [nodesB];cases nodeB i xs[i] <;> simp
   rw [hgoal]
   by_cases hr : decide (1 ≤ xs[i].f0 ∧ xs[i].f0 ≤ 11) = true
   ·refine Ev.congr (fun k => if_pos hr) (Ev.bind (specKids_ev _) ?_)
    have j:=J ((xs[i].f3.length : Int) != kidsOf xs[i].f0)
    have hb : nodeB i xs[i] = (!((xs[i].f3.length : Int) != kidsOf xs[i].f0) && numOk xs[i].f0 xs[i].f1 && nameOk xs[i].f0 xs[i].f2 && kidsIn i xs[i].f3):=by
     unfold nodeB
     rw [hr,Bool.true_and]
     congr 3
     by_cases hq : (xs[i].f3.length : Int) = kidsOf xs[i].f0 <;> simp [hq]
    rw [hb]
    exact j
   ·refine Ev.congr (fun k => if_neg hr) ?_
    have hb : nodeB i xs[i] = false:=by unfold nodeB;rw [show decide (1 ≤ xs[i].f0 ∧ xs[i].f0 ≤ 11) = false from by simpa using hr];simp
    rw [hb]
    exact J true
theorem specExprOk_ev (xs : List S34) (hz : smallX xs) : Ev (fun k => spec_ExprOk.f k xs) (exprOkB xs) :=
 specExpr_l0 xs hz xs.length 0 (by omega) (by omega)
theorem drawExprOk_ev (b : List Int) (hb : b.length ≤ 140737488351232) : ∃ xs,Ev (fun k => spec_DrawExprOk.f k b) xs ∧ Small7 xs:=by
 obtain ⟨h,e⟩:=l01New_is b hb 4001 (by omega)
 obtain ⟨xs,i',h',e2,hs,_⟩:=l04Any_is b 0 h ⟨hb,by omega,by omega⟩
 refine ⟨xs,Ev.of (k:=4001) (spec_DrawExprOk.mono b) ?_,hs⟩
 unfold spec_DrawExprOk.f
 rw [e,Option.bind_some]
 show (spec_l04Any.f b 0 h).bind _ = _
 rw [e2]
 rfl
theorem small_few (xs : List S34) (hl : xs.length ≤ 7) (h : ∀ y ∈ xs,y.f2.size ≤ 4 ∧ y.f3.length ≤ 2) : smallX xs:=Small7.x ⟨hl,h⟩
theorem FnExprWrong : laws_FnExprWrong.Pure:=by
 intro l hl hsz hw
 have hb : l.length ≤ 140737488351232:=by omega
 refine Ev.rounds (r:=true) ?_
 unfold laws_FnExprWrong.f laws_big.f laws_twoOf.f
 by_cases hbig : decide ((l.length : Int) > 1048576) = true
 ·exact Ev.congr (f:=fun _ => some true) (fun k => by rw [Option.bind_some,if_pos hbig]) (Ev.now _)
 obtain ⟨p,e1,hp,hpr⟩:=drawPlaces_is l hb 4001 (by omega)
 have eP : Ev (fun k => spec_DrawPlaces.f k l) p:=Ev.of (spec_DrawPlaces.mono l) e1
 obtain ⟨xs,eX,hs⟩:=drawExprOk_ev l hb
 have h0 : 0 ≤ rd p 0 ∧ rd p 0 < 10000:=hpr _ (by unfold rd;rw [List.getD_eq_getElem?_getD,List.getElem?_eq_getElem (by omega),Option.getD_some];exact List.getElem_mem _)
 have h1 : 0 ≤ rd p 1 ∧ rd p 1 < 10000:=hpr _ (by unfold rd;rw [List.getD_eq_getElem?_getD,List.getElem?_eq_getElem (by show 1 < p.length;omega),Option.getD_some];exact List.getElem_mem _)
 have t0 : 0 ≤ Int.tmod (rd p 0) 100 ∧ Int.tmod (rd p 0) 100 ≤ 99:=by rw [tmod_e h0.1];omega
 have t1 : 0 ≤ Int.tmod (rd p 1) 12 ∧ Int.tmod (rd p 1) 12 ≤ 11:=by rw [tmod_e h1.1];omega
 have sm : ∀ (m m2 op : Int),smallX [(⟨1,m,(⟨#[]⟩ : ByteArray),[]⟩ : S34),⟨1,m2,(⟨#[]⟩ : ByteArray),[]⟩,⟨op,0,(⟨#[]⟩ : ByteArray),[0,1]⟩]:=fun m m2 op => small_few _ (by simp) (by
  intro y hy
  simp only [List.mem_cons,List.not_mem_nil,or_false] at hy
  rcases hy with rfl | rfl | rfl <;> exact ⟨Nat.zero_le 4,by simp⟩)
 have s1 : ∀ (op : Int) (s : ByteArray),s.size ≤ 4 → smallX [(⟨op,0,s,[]⟩ : S34)]:=fun op s hs => small_few _ (by simp) (by
  intro y hy
  simp only [List.mem_cons,List.not_mem_nil,or_false] at hy
  subst hy
  exact ⟨hs,by simp⟩)
 have sB : smallX [(⟨1,99,(⟨#[]⟩ : ByteArray),[]⟩ : S34),⟨1,99,(⟨#[]⟩ : ByteArray),[]⟩,⟨6,0,(⟨#[]⟩ : ByteArray),[0,1]⟩,⟨1,99,(⟨#[]⟩ : ByteArray),[]⟩,⟨6,0,(⟨#[]⟩ : ByteArray),[2,3]⟩]:=small_few _ (by simp) (by
  intro y hy
  simp only [List.mem_cons,List.not_mem_nil,or_false] at hy
  rcases hy with rfl | rfl | rfl | rfl | rfl <;> exact ⟨Nat.zero_le 4,by simp⟩)
 have v1:=implEvalExpr_ev _ (sm 99 99 6) [] (by simp) 0
 rw [eval_mul] at v1
 have v2:=implEvalExpr_ev _ (sm (Int.tmod (rd p 0) 100) 0 7) [] (by simp) 0
 rw [eval_div _ t0] at v2
 have v3:=implEvalExpr_ev _ (s1 2 (⟨#[97]⟩ : ByteArray) (by decide)) [] (by simp) 0
 rw [eval_var] at v3
 have v4:=implEvalExpr_ev _ (s1 3 (⟨#[]⟩ : ByteArray) (by decide)) [] (by simp) (Int.tmod (rd p 1) 12)
 rw [eval_here _ t1] at v4
 have v5:=implEvalExpr_ev _ sB [] (by simp) 0
 rw [eval_big] at v5
 have v6 : Ev (fun k => impl_EvalExpr.f k (([] ++ [(⟨1,99,(⟨#[]⟩ : ByteArray),[]⟩ : S34),⟨1,99,(⟨#[]⟩ : ByteArray),[]⟩,⟨6,0,(⟨#[]⟩ : ByteArray),[0,1]⟩]) ++ [(⟨1,99,(⟨#[]⟩ : ByteArray),[]⟩ : S34),⟨6,0,(⟨#[]⟩ : ByteArray),[2,3]⟩]) [] 0) (0,false):=v5
 refine Ev.congr (fun k => by rw [Option.bind_some,if_neg hbig]) (Ev.bind eP ?_)
 refine Ev.congr (fun k => Option.bind_some _ _) (Ev.bind v1 ?_)
 refine Ev.congr (fun k => by rw [if_pos (show 0 < (p.length : Int) by omega),Option.bind_some]) (Ev.bind v2 (Ev.bind v3 ?_))
 refine Ev.congr (fun k => if_pos (show 1 < (p.length : Int) by omega)) (Ev.bind v4 ?_)
 refine Ev.congr (fun k => by rw [Option.bind_some,if_pos (by simp),Option.bind_some,Option.bind_some,if_pos (by simp)]) (Ev.bind v6 (Ev.bind eX ?_))
 refine Ev.congr (f:=fun k => (impl_ExprOk.f k xs).bind fun a => (spec_ExprOk.f k xs).bind fun c => some (a == c)) (fun k => ?_) (Ev.bind (Ev.from (xs.length + 1048578) (implExprOk_is xs hs.x)) (Ev.bind (specExprOk_ev xs hs.x) (Ev.congr (f:=fun _ => some true) (fun k => by rw [show (exprOkB xs == exprOkB xs) = true from by cases exprOkB xs <;> rfl]) (Ev.now _))))
 rw [if_pos rfl,if_pos rfl,if_neg (by simp),if_pos rfl,if_neg (by simp),if_pos rfl,if_pos rfl,if_pos rfl,if_neg (by simp),if_pos rfl]
end Go.Proofs.Ytnmhggdaccbbfaa.Pure
