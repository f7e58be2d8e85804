/- FnExprFree without Go: names that a drawn expression does not have change nothing of it; the program's FreeOf and the reference's answer the same. -/
import Derived.Test.YtnmhggdaccbbfaaMFnExprFreex13
import Derived.Lib.SlicesCompact
import Derived.Sort.Walk0
set_option linter.unusedVariables false
set_option linter.unusedSimpArgs false
set_option maxHeartbeats 400000
namespace Go.Proofs.Ytnmhggdaccbbfaa.Pure
open Go.RowKit Go.Proofs.Ytnmhggdaccbbfaa.MFnExprFree Go.Proofs.YtnmhggdaccbbfaaW.PrintWords Go.Proofs.YtnmhggdaccbbfaaW.PrintLast
theorem w64 {n : Int} (h : -9223372036854775808 ≤ n) (h' : n ≤ 9223372036854775807) : wrap64 n = n:=by unfold wrap64;omega
theorem w64_succ {i m : Nat} (h : i < m) (hm : m ≤ 140737488351232) : wrap64 ((i : Int) + 1) = ((i + 1 : Nat) : Int):=by
 rw [w64 (by omega) (by omega)];omega
theorem w64_bt (s : ByteArray) (i : Int) : wrap64 (bt s i) = bt s i:=by
 have:=bt_range s i
 exact w64 (by omega) (by omega)
def bs (s : ByteArray) : List Int:=s.data.toList.map fun b => (b.toNat : Int)
theorem bs_length (s : ByteArray) : (bs s).length = s.size:=by simp [bs]
theorem bs_get (s : ByteArray) (i : Nat) (h : i < s.size) : (bs s)[i]? = some (bt s i):=by
 have h2 : i < s.data.toList.length:=by simpa using h
 simp only [bs,List.getElem?_map,List.getElem?_eq_getElem h2,Option.map_some]
 unfold bt
 rw [dif_pos (by simpa using h)]
 rfl
theorem bs_drop (s : ByteArray) (i : Nat) (h : i < s.size) : (bs s).drop i = bt s i :: (bs s).drop (i + 1):=by
 have h2 : i < (bs s).length:=by rw [bs_length];exact h
 rw [List.drop_eq_getElem_cons h2]
 congr 1
 have:=bs_get s i h
 rw [List.getElem?_eq_getElem h2] at this
 exact Option.some.inj this
theorem bs_drop_nil (s : ByteArray) (i : Nat) (h : s.size ≤ i) : (bs s).drop i = []:=List.drop_eq_nil_of_le (by rw [bs_length];exact h)
theorem toList_eq {s t : ByteArray} : s.toList = t.toList ↔ s = t:=by
 rw [ByteArray.toList_eq,ByteArray.toList_eq]
 constructor
 ·intro h;cases s;cases t;simpa [Array.toList_inj] using h
 ·rintro rfl;rfl
theorem tmod_e {n : Int} (h : 0 ≤ n) (m : Int) : Int.tmod n m = n % m:=Int.tmod_eq_emod_of_nonneg h
def impl_EnvOnly.has (ns : List ByteArray) (v : ByteArray) : Bool:=ns.any fun y => v.toList == y.toList
theorem drop_get {α : Type} (xs : List α) (i : Nat) (h : i < xs.length) : xs.drop i = xs[i] :: xs.drop (i + 1):=List.drop_eq_getElem_cons h
theorem w64_len {i n : Nat} (h : i < n) (hn : n ≤ 9223372036854775807) : wrap64 ((i : Int) + 1) = ((i + 1 : Nat) : Int):=by
 rw [w64 (by omega) (by omega)];omega
theorem and255_range (x : Int) : 0 ≤ Go.bits .and .i64 x 255 ∧ Go.bits .and .i64 x 255 ≤ 255:=by
 have h : Go.bits .and .i64 x 255 = IntKind.i64.wrap (((BitVec.ofInt 64 x) &&& (BitVec.ofInt 64 255)).toNat : Int):=rfl
 have h2 : ((BitVec.ofInt 64 x) &&& (BitVec.ofInt 64 255)).toNat ≤ 255:=by
  rw [BitVec.toNat_and,show (BitVec.ofInt 64 255).toNat = 255 from by decide]
  exact Nat.and_le_right
 rw [h,IntKind.wrap_i64]
 omega
theorem l01New_l0 (b : List Int) (hb : b.length ≤ 140737488351232) (d : Nat) : ∀ (k i : Nat) (h : Int),4000 - i ≤ d → d < k → i ≤ 4000 → ∃ h',spec_l01New.l0 k b h (i : Int) = some (b,0,h'):=by
 induction d with
 | zero =>
  intro k i h hd hk hi
  obtain ⟨k,rfl⟩ : ∃ m,k = m + 1:=⟨k - 1,by omega⟩
  rw [spec_l01New.l0]
  by_cases c : (i : Int) < (b.length : Int)
  ·rw [if_pos c,if_neg (by omega)];exact ⟨_,rfl⟩
  ·rw [if_neg c];exact ⟨_,rfl⟩
 | succ d ih =>
  intro k i h hd hk hi
  obtain ⟨k,rfl⟩ : ∃ m,k = m + 1:=⟨k - 1,by omega⟩
  rw [spec_l01New.l0]
  by_cases c : (i : Int) < (b.length : Int)
  ·rw [if_pos c]
   by_cases c2 : (i : Int) < 4000
   ·rw [if_pos c2,if_pos (by omega),w64_len (n:=4000) (by omega) (by omega)]
    exact ih k (i + 1) _ (by omega) (by omega) (by omega)
   ·rw [if_neg c2];exact ⟨_,rfl⟩
  ·rw [if_neg c];exact ⟨_,rfl⟩
theorem l01New_is (b : List Int) (hb : b.length ≤ 140737488351232) (k : Nat) (hk : 4001 ≤ k) : ∃ h',spec_l01New.f k b = some (b,0,h'):=by
 unfold spec_l01New.f
 exact l01New_l0 b hb 4000 k 0 _ (by omega) (by omega) (by omega)
def At (b : List Int) (i : Int) : Prop:=b.length ≤ 140737488351232 ∧ 0 ≤ i ∧ i ≤ (b.length : Int)
theorem l01Byte_is (b : List Int) (i h : Int) (hi : At b i) : ∃ r i' h',spec_l01Byte.f b i h = some (r,i',h') ∧ (0 ≤ r ∧ r ≤ 255) ∧ At b i':=by
 obtain ⟨hb,h0,h1⟩:=hi
 unfold spec_l01Byte.f
 by_cases c : i < (b.length : Int)
 ·rw [if_pos c,if_pos h0]
  refine ⟨_,_,_,rfl,and255_range _,hb,?_⟩
  rw [w64 (by omega) (by omega)]
  omega
 ·rw [if_neg c]
  exact ⟨_,_,_,rfl,and255_range _,hb,h0,h1⟩
theorem l01Below_is (b : List Int) (i h : Int) (hi : At b i) (n : Int) (hn : 0 < n) : ∃ r i' h',spec_l01Below.f b i h n = some (r,i',h') ∧ (0 ≤ r ∧ r < n) ∧ At b i':=by
 unfold spec_l01Below.f
 rw [if_neg (by omega)]
 by_cases c : n ≤ 256
 ·obtain ⟨r,i',h',e,hr,ha⟩:=l01Byte_is b i h hi
  rw [if_pos c,e,Option.bind_some,if_neg (by omega)]
  refine ⟨_,_,_,rfl,?_,ha⟩
  show 0 ≤ Int.tmod r n ∧ Int.tmod r n < n
  rw [tmod_e hr.1]
  exact ⟨Int.emod_nonneg _ (by omega),Int.emod_lt_of_pos _ hn⟩
 ·obtain ⟨r1,i1,h1,e1,b1,a1⟩:=l01Byte_is b i h hi
  obtain ⟨r2,i2,h2,e2,b2,a2⟩:=l01Byte_is b i1 h1 a1
  obtain ⟨r3,i3,h3,e3,b3,a3⟩:=l01Byte_is b i2 h2 a2
  obtain ⟨r4,i4,h4,e4,b4,a4⟩:=l01Byte_is b i3 h3 a3
  rw [if_neg c,e1,Option.bind_some,e2,Option.bind_some,e3,Option.bind_some,e4,Option.bind_some,if_neg (by omega)]
  refine ⟨_,_,_,rfl,?_,a4⟩
  show 0 ≤ Int.tmod (wrap64 (wrap64 (wrap64 (wrap64 (r1 * 16777216) + wrap64 (r2 * 65536)) + wrap64 (r3 * 256)) + r4)) n ∧ Int.tmod (wrap64 (wrap64 (wrap64 (wrap64 (r1 * 16777216) + wrap64 (r2 * 65536)) + wrap64 (r3 * 256)) + r4)) n < n
  have hx : 0 ≤ wrap64 (wrap64 (wrap64 (wrap64 (r1 * 16777216) + wrap64 (r2 * 65536)) + wrap64 (r3 * 256)) + r4):=by
   rw [w64 (n:=r1 * 16777216) (by omega) (by omega),w64 (n:=r2 * 65536) (by omega) (by omega),w64 (n:=r3 * 256) (by omega) (by omega),w64 (n:=r1 * 16777216 + r2 * 65536) (by omega) (by omega),
    w64 (n:=r1 * 16777216 + r2 * 65536 + r3 * 256) (by omega) (by omega),w64 (by omega) (by omega)]
   omega
  rw [tmod_e hx]
  exact ⟨Int.emod_nonneg _ (by omega),Int.emod_lt_of_pos _ hn⟩
theorem l01Pick_is (b : List Int) (i h : Int) (hi : At b i) (xs : List ByteArray) (hx : xs ≠ []) : ∃ r i' h',spec_l01Pick.f b i h xs = some (r,i',h') ∧ r ∈ xs ∧ At b i':=by
 have hl : 0 < xs.length:=List.length_pos_iff.2 hx
 obtain ⟨r,i',h',e,hr,ha⟩:=l01Below_is b i h hi (xs.length : Int) (by omega)
 unfold spec_l01Pick.f
 rw [e,Option.bind_some,if_pos hr.1,if_pos hr.2]
 refine ⟨_,_,_,rfl,?_,ha⟩
 show rdOf ByteArray.empty xs r ∈ xs
 unfold rdOf
 rw [List.getD_eq_getElem?_getD,List.getElem?_eq_getElem (by omega),Option.getD_some]
 exact List.getElem_mem _
theorem l01PickInt_is (b : List Int) (i h : Int) (hi : At b i) (xs : List Int) (hx : xs ≠ []) : ∃ r i' h',spec_l01PickInt.f b i h xs = some (r,i',h') ∧ r ∈ xs ∧ At b i':=by
 have hl : 0 < xs.length:=List.length_pos_iff.2 hx
 obtain ⟨r,i',h',e,hr,ha⟩:=l01Below_is b i h hi (xs.length : Int) (by omega)
 unfold spec_l01PickInt.f
 rw [e,Option.bind_some,if_pos hr.1,if_pos hr.2]
 refine ⟨_,_,_,rfl,?_,ha⟩
 show rd xs r ∈ xs
 unfold rd
 rw [List.getD_eq_getElem?_getD,List.getElem?_eq_getElem (by omega),Option.getD_some]
 exact List.getElem_mem _
theorem rdI' (xs : List S87) (i : Nat) (h : i < xs.length) : rd_T87 xs (i : Int) = xs[i]:=by simp [rd_T87,List.getD,h]
def small (c : Int) : Bool:=decide (97 ≤ c ∧ c ≤ 122)
def varNameB (s : ByteArray) : Bool:=(bs s).all small && decide (1 ≤ (s.size : Int) ∧ (s.size : Int) ≤ 4)
def numB (n : Int) : Bool:=decide (-9999 ≤ n ∧ n ≤ 9999)
def lessB (a b : ByteArray) : Bool:=Op.bytesLess a.toList b.toList
def envRest : Option ByteArray → List S87 → Bool
 | _,[] => true
 | p,v :: l => varNameB v.f0 && numB v.f1 && (match p with | none => true | some a => lessB a v.f0) && envRest (some v.f0) l
def envOkB (xs : List S87) : Bool:=envRest none xs && decide ((xs.length : Int) ≤ 6)
def ahead (xs : List S87) (i : Nat) : Option ByteArray:=if i = 0 then none else some (xs.getD (i - 1) z87).f0
theorem ahead_succ (xs : List S87) (i : Nat) (h : i < xs.length) : ahead xs (i + 1) = some xs[i].f0:=by simp [ahead,List.getD,h]
def lesser (n : ByteArray) (xs : List S87) : List S87:=xs.filter fun v => lessB v.f0 n
def greater (n : ByteArray) (xs : List S87) : List S87:=xs.filter fun v => lessB n v.f0
theorem lesser_cons (n : ByteArray) (v : S87) (xs : List S87) : lesser n (v :: xs) = (if lessB v.f0 n = true then [v] else []) ++ lesser n xs:=by
 unfold lesser
 rw [List.filter_cons]
 by_cases h : lessB v.f0 n = true
 ·rw [if_pos h,if_pos h];rfl
 ·rw [if_neg h,if_neg h];rfl
theorem greater_cons (n : ByteArray) (v : S87) (xs : List S87) : greater n (v :: xs) = (if lessB n v.f0 = true then [v] else []) ++ greater n xs:=by
 unfold greater
 rw [List.filter_cons]
 by_cases h : lessB n v.f0 = true
 ·rw [if_pos h,if_pos h];rfl
 ·rw [if_neg h,if_neg h];rfl
theorem lesser_length (n : ByteArray) (xs : List S87) : (lesser n xs).length ≤ xs.length:=List.length_filter_le _ _
theorem greater_length (n : ByteArray) (xs : List S87) : (greater n xs).length ≤ xs.length:=List.length_filter_le _ _
def putEnv (xs : List S87) (n : ByteArray) (m : Int) : List S87:=lesser n xs ++ [⟨n,m⟩] ++ greater n xs
def setEnv (xs : List S87) (n : ByteArray) (m : Int) : List S87 × Bool:=if envOkB (putEnv xs n m) = true then (putEnv xs n m,true) else (xs,false)
theorem putEnv_mem {B : Nat} {xs : List S87} {n : ByteArray} {m : Int} (hx : ∀ y ∈ xs,y.f0.size ≤ B) (hn : n.size ≤ B) : ∀ y ∈ putEnv xs n m,y.f0.size ≤ B:=by
 intro y hy
 unfold putEnv at hy
 simp only [List.mem_append,List.mem_singleton] at hy
 rcases hy with (hy | rfl) | hy
 ·exact hx y (List.mem_filter.1 hy).1
 ·exact hn
 ·exact hx y (List.mem_filter.1 hy).1
theorem putEnv_length (xs : List S87) (n : ByteArray) (m : Int) : (putEnv xs n m).length ≤ 2 * xs.length + 1:=by
 unfold putEnv
 have:=lesser_length n xs
 have:=greater_length n xs
 simp only [List.length_append,List.length_singleton]
 omega
theorem l01In_is (a b c : Int) : spec_l01In.f a b c = some (decide (b ≤ a ∧ a ≤ c)):=by
 unfold spec_l01In.f
 by_cases h : a ≥ b
 ·rw [if_pos h];simp [show b ≤ a from h]
 ·rw [if_neg h];simp [show ¬ b ≤ a from h]
theorem specVarName_l0 (s : ByteArray) (hs : s.size ≤ 140737488351232) (d : Nat) : ∀ (k i : Nat),s.size - i ≤ d → d < k →
  spec_VarName.l0 k s (i : Int) = some (((bs s).drop i).all small && decide (1 ≤ (s.size : Int) ∧ (s.size : Int) ≤ 4)):=by
 induction d with
 | zero =>
  intro k i hd hk
  obtain ⟨k,rfl⟩ : ∃ m,k = m + 1:=⟨k - 1,by omega⟩
  simp only [spec_VarName.l0]
  rw [if_neg (by omega),l01In_is,bs_drop_nil s i (by omega)];simp
 | succ d ih =>
  intro k i hd hk
  obtain ⟨k,rfl⟩ : ∃ m,k = m + 1:=⟨k - 1,by omega⟩
  by_cases hi : i < s.size
  ·have e:=ih k (i + 1) (by omega) (by omega)
   simp only [spec_VarName.l0]
   rw [if_pos (by omega),if_pos (by omega),w64_succ hi hs,e,bs_drop s i hi]
   simp only [List.all_cons]
   by_cases h1 : bt s i < 97
   ·rw [if_pos h1,show small (bt s i) = false from by simp [small];omega];simp
   ·by_cases h2 : bt s i > 122
    ·rw [if_neg h1,if_pos h2,show small (bt s i) = false from by simp [small];omega];simp
    ·rw [if_neg h1,if_neg h2,show small (bt s i) = true from by simp [small];omega];simp
  ·simp only [spec_VarName.l0]
   rw [if_neg (by omega),l01In_is,bs_drop_nil s i (by omega)];simp
theorem specVarName_is (s : ByteArray) (hs : s.size ≤ 140737488351232) (k : Nat) (hk : s.size < k) : spec_VarName.f k s = some (varNameB s):=by
 unfold spec_VarName.f
 exact specVarName_l0 s hs s.size k 0 (by omega) hk
theorem specEnvOk_l0 (B : Nat) (hB : B ≤ 140737488351232) (xs : List S87) (hx : ∀ y ∈ xs,y.f0.size ≤ B) (hl : xs.length ≤ 9223372036854775807) (d : Nat) : ∀ (k i : Nat),xs.length - i ≤ d → d + B < k →
  spec_EnvOk.l0 k xs (i : Int) = some (envRest (ahead xs i) (xs.drop i) && decide ((xs.length : Int) ≤ 6)):=by
 induction d with
 | zero =>
  intro k i hd hk
  obtain ⟨k,rfl⟩ : ∃ m,k = m + 1:=⟨k - 1,by omega⟩
  rw [spec_EnvOk.l0,if_neg (by omega),List.drop_eq_nil_of_le (by omega)];simp [envRest]
 | succ d ih =>
  intro k i hd hk
  obtain ⟨k,rfl⟩ : ∃ m,k = m + 1:=⟨k - 1,by omega⟩
  by_cases hi : i < xs.length
  ·have hs : xs[i].f0.size ≤ B:=hx _ (List.getElem_mem hi)
   have e:=ih k (i + 1) (by omega) (by omega)
   rw [ahead_succ xs i hi] at e
   rw [spec_EnvOk.l0,if_pos (by omega),if_pos (by omega),rdI' xs i hi,specVarName_is _ (by omega) k (by omega),Option.bind_some,w64_len hi hl,e,drop_get xs i hi]
   simp only [envRest]
   by_cases h1 : varNameB xs[i].f0 = true
   ·rw [if_pos h1,l01In_is,Option.bind_some,h1,show decide (-9999 ≤ xs[i].f1 ∧ xs[i].f1 ≤ 9999) = numB xs[i].f1 from rfl]
    by_cases h2 : numB xs[i].f1 = true
    ·rw [if_pos h2,h2]
     by_cases h3 : (i : Int) > 0
     ·have e2 : wrap64 ((i : Int) - 1) = ((i - 1 : Nat) : Int):=by rw [w64 (by omega) (by omega)];omega
      rw [if_pos h3,e2,if_pos (by omega),if_pos (by omega),rdI' xs (i - 1) (by omega)]
      have ha : ahead xs i = some xs[i - 1].f0:=by
       unfold ahead
       rw [if_neg (by omega)]
       simp [List.getD,List.getElem?_eq_getElem (show i - 1 < xs.length by omega)]
      rw [ha,show Op.bytesLess xs[i - 1].f0.toList xs[i].f0.toList = lessB xs[i - 1].f0 xs[i].f0 from rfl]
      by_cases h4 : lessB xs[i - 1].f0 xs[i].f0 = true
      ·rw [if_pos h4];simp [h4]
      ·rw [if_neg h4];simp [h4]
     ·rw [if_neg h3]
      have ha : ahead xs i = none:=by unfold ahead;rw [if_pos (by omega)]
      rw [ha];simp
    ·rw [if_neg h2];simp [h2]
   ·rw [if_neg h1];simp [h1]
  ·rw [spec_EnvOk.l0,if_neg (by omega),List.drop_eq_nil_of_le (by omega)];simp [envRest]
theorem specEnvOk_is (B : Nat) (hB : B ≤ 140737488351232) (xs : List S87) (hx : ∀ y ∈ xs,y.f0.size ≤ B) (hl : xs.length ≤ 9223372036854775807) (k : Nat) (hk : xs.length + B < k) : spec_EnvOk.f k xs = some (envOkB xs):=by
 unfold spec_EnvOk.f
 exact specEnvOk_l0 B hB xs hx hl xs.length k 0 (by omega) hk
def tailSpec (k : Nat) (xs : List S87) (out : List S87) : Option (List S87 × Bool) :=
 ((spec_EnvOk.f k out).bind fun t204 => (if t204 = true then (some (out,true)) else ((some (([] : List (S87)) : List (S87))).bind fun y205 => (if y205.length + xs.length < 5864062014805 then (some ((y205 ++ xs),false)) else (none)))))
theorem specEnvSet_l1 (xs : List S87) (n : ByteArray) (hl : xs.length ≤ 1048576) (r : Nat) : ∀ (k i : Nat) (out : List S87),xs.length - i = r → out.length ≤ 1048577 + i →
  spec_EnvSet.l1 (k + r + 1) xs n out (i : Int) = tailSpec k xs (out ++ greater n (xs.drop i)):=by
 induction r with
 | zero =>
  intro k i out hr h1
  rw [show k + 0 + 1 = k + 1 from rfl,spec_EnvSet.l1,if_neg (by omega),List.drop_eq_nil_of_le (by omega),show greater n [] = [] from rfl,List.append_nil]
  rfl
 | succ r ih =>
  intro k i out hr h1
  have hi2 : i < xs.length:=by omega
  rw [show k + (r + 1) + 1 = (k + r + 1) + 1 from by omega,spec_EnvSet.l1,if_pos (by omega),if_pos (by omega),rdI' xs i hi2,drop_get xs i hi2,greater_cons,w64_len hi2 (by omega)]
  rw [show Op.bytesLess n.toList xs[i].f0.toList = lessB n xs[i].f0 from rfl]
  by_cases c1 : lessB n xs[i].f0 = true
  ·rw [if_pos c1,if_pos c1,if_pos (by omega),ih k (i + 1) _ (by omega) (by simp;omega)]
   simp only [List.append_assoc]
  ·rw [if_neg c1,if_neg c1,ih k (i + 1) _ (by omega) (by omega),List.nil_append]
theorem specEnvSet_l0 (xs : List S87) (n : ByteArray) (m : Int) (hl : xs.length ≤ 1048576) (r : Nat) : ∀ (k i : Nat) (out : List S87),xs.length - i = r → out.length ≤ i → i ≤ xs.length →
  spec_EnvSet.l0 (k + r + 1) xs n m out (i : Int) = spec_EnvSet.l1 k xs n (out ++ lesser n (xs.drop i) ++ [⟨n,m⟩]) 0:=by
 induction r with
 | zero =>
  intro k i out hr h1 h2
  rw [show k + 0 + 1 = k + 1 from rfl,spec_EnvSet.l0,if_neg (by omega),if_pos (by omega),List.drop_eq_nil_of_le (by omega),show lesser n [] = [] from rfl,List.append_nil]
 | succ r ih =>
  intro k i out hr h1 h2
  have hi2 : i < xs.length:=by omega
  rw [show k + (r + 1) + 1 = (k + r + 1) + 1 from by omega,spec_EnvSet.l0,if_pos (by omega),if_pos (by omega),rdI' xs i hi2,drop_get xs i hi2,lesser_cons,w64_len hi2 (by omega)]
  rw [show Op.bytesLess xs[i].f0.toList n.toList = lessB xs[i].f0 n from rfl]
  by_cases c1 : lessB xs[i].f0 n = true
  ·rw [if_pos c1,if_pos c1,if_pos (by omega),ih k (i + 1) _ (by omega) (by simp;omega) (by omega)]
   simp only [List.append_assoc]
  ·rw [if_neg c1,if_neg c1,ih k (i + 1) _ (by omega) (by omega) (by omega),List.nil_append]
theorem specEnvSet_is (xs : List S87) (n : ByteArray) (m : Int) (hx : ∀ y ∈ xs,y.f0.size ≤ 1048576) (hn : n.size ≤ 1048576) (hl : xs.length ≤ 1048576) (k : Nat) (hk : 4000000 + 2 * xs.length < k) :
  spec_EnvSet.f k xs n m = some (setEnv xs n m):=by
 obtain ⟨k,rfl⟩ : ∃ q,k = q + xs.length + 1 + xs.length + 1:=⟨k - 2 * xs.length - 2,by omega⟩
 unfold spec_EnvSet.f
 have h1:=lesser_length n xs
 have h3:=putEnv_length xs n m
 rw [show (0 : Int) = ((0 : Nat) : Int) from rfl,specEnvSet_l0 xs n m hl xs.length _ 0 [] (by omega) (by simp) (by omega),List.drop_zero,List.nil_append,
  show (0 : Int) = ((0 : Nat) : Int) from rfl,specEnvSet_l1 xs n hl xs.length k 0 _ (by omega) (by simp only [List.length_append,List.length_singleton];omega),List.drop_zero]
 unfold tailSpec
 rw [show lesser n xs ++ [(⟨n,m⟩ : S87)] ++ greater n xs = putEnv xs n m from rfl,
  specEnvOk_is 1048576 (by omega) _ (putEnv_mem hx hn) (by omega) k (by omega),Option.bind_some]
 unfold setEnv
 by_cases c : envOkB (putEnv xs n m) = true
 ·rw [if_pos c,if_pos c]
 ·rw [if_neg c,if_neg c,Option.bind_some,if_pos (by simp only [List.length_nil];omega),List.nil_append]
theorem bl_cons (a b : UInt8) (x y : List UInt8) : Op.bytesLess (a :: x) (b :: y) = true ↔ a.toNat < b.toNat ∨ (a = b ∧ Op.bytesLess x y = true):=by
 simp [Op.bytesLess,UInt8.lt_iff_toNat_lt]
theorem bl_nil (x : List UInt8) : Op.bytesLess x [] = false:=by cases x <;> rfl
theorem bl_irrefl (x : List UInt8) : Op.bytesLess x x = false:=by
 induction x with
 | nil => rfl
 | cons a x ih =>
  by_cases h : Op.bytesLess (a :: x) (a :: x) = true
  ·rw [bl_cons] at h
   rcases h with h | h
   ·omega
   ·rw [ih] at h;exact absurd h.2 (by simp)
  ·simpa using h
theorem bl_trans : ∀ x y z : List UInt8,Op.bytesLess x y = true → Op.bytesLess y z = true → Op.bytesLess x z = true
 | x,y,[],_,h => by rw [bl_nil] at h;cases h
 | x,[],c :: z,h,_ => by rw [bl_nil] at h;cases h
 | [],b :: y,c :: z,_,_ => rfl
 | a :: x,b :: y,c :: z,h1,h2 => by
  rw [bl_cons] at h1 h2 ⊢
  rcases h1 with h1 | ⟨rfl,h1⟩
  ·rcases h2 with h2 | ⟨rfl,h2⟩
   ·left;omega
   ·left;exact h1
  ·rcases h2 with h2 | ⟨rfl,h2⟩
   ·left;exact h2
   ·right;exact ⟨rfl,bl_trans x y z h1 h2⟩
theorem lessB_irrefl (a : ByteArray) : lessB a a = false:=bl_irrefl _
theorem lessB_trans {a b c : ByteArray} (h : lessB a b = true) (h2 : lessB b c = true) : lessB a c = true:=bl_trans _ _ _ h h2
theorem lessB_asymm {a b : ByteArray} (h : lessB a b = true) : lessB b a = false:=by
 by_cases c : lessB b a = true
 ·have:=lessB_trans h c
  rw [lessB_irrefl] at this
  cases this
 ·simpa using c
def okV (v : S87) : Bool:=varNameB v.f0 && numB v.f1
structure Good (xs : List S87) : Prop where
 all : ∀ v ∈ xs,okV v = true
 up : xs.Pairwise fun v w => lessB v.f0 w.f0 = true
theorem envRest_iff (xs : List S87) : ∀ p : Option ByteArray,envRest p xs = true ↔ ((∀ v ∈ xs,okV v = true) ∧ (∀ a,p = some a → ∀ v ∈ xs,lessB a v.f0 = true) ∧ xs.Pairwise fun v w => lessB v.f0 w.f0 = true):=by
 induction xs with
 | nil => intro p;simp [envRest]
 | cons v l ih =>
  intro p
  simp only [envRest,Bool.and_eq_true,ih (some v.f0)]
  constructor
  ·rintro ⟨⟨⟨h1,h2⟩,h3⟩,h4,h5,h6⟩
   have h5':=h5 v.f0 rfl
   refine ⟨?_,?_,?_⟩
   ·intro w hw
    rcases List.mem_cons.1 hw with rfl | hw
    ·simp [okV,h1,h2]
    ·exact h4 w hw
   ·intro a ha w hw
    subst ha
    rcases List.mem_cons.1 hw with rfl | hw
    ·exact h3
    ·exact lessB_trans h3 (h5' w hw)
   ·exact List.pairwise_cons.2 ⟨h5',h6⟩
  ·rintro ⟨h1,h2,h3⟩
   have hv:=h1 v List.mem_cons_self
   simp only [okV,Bool.and_eq_true] at hv
   obtain ⟨p1,p2⟩:=List.pairwise_cons.1 h3
   refine ⟨⟨hv,?_⟩,fun w hw => h1 w (List.mem_cons_of_mem _ hw),?_,p2⟩
   ·cases p with
    | none => rfl
    | some a => exact h2 a rfl v List.mem_cons_self
   ·intro a ha w hw
    cases ha
    exact p1 w hw
theorem envOkB_iff (xs : List S87) : envOkB xs = true ↔ Good xs ∧ xs.length ≤ 6:=by
 unfold envOkB
 rw [Bool.and_eq_true,envRest_iff,decide_eq_true_eq]
 constructor
 ·rintro ⟨⟨h1,_,h3⟩,h4⟩;exact ⟨⟨h1,h3⟩,by omega⟩
 ·rintro ⟨h,h4⟩;exact ⟨⟨h.all,by simp,h.up⟩,by omega⟩
theorem putEnv_length1 (xs : List S87) (n : ByteArray) (m : Int) : (putEnv xs n m).length ≤ xs.length + 1:=by
 have h : (lesser n xs).length + (greater n xs).length ≤ xs.length:=by
  induction xs with
  | nil => simp [lesser,greater]
  | cons v l ih =>
   rw [lesser_cons,greater_cons,List.length_append,List.length_append,List.length_cons]
   by_cases c : lessB v.f0 n = true
   ·rw [if_pos c,if_neg (by rw [lessB_asymm c];simp),List.length_singleton,List.length_nil];omega
   ·by_cases c2 : lessB n v.f0 = true
    ·rw [if_neg c,if_pos c2,List.length_singleton,List.length_nil];omega
    ·rw [if_neg c,if_neg c2,List.length_nil];omega
 unfold putEnv
 simp only [List.length_append,List.length_singleton]
 omega
theorem putEnv_names {xs : List S87} {n : ByteArray} {m : Int} {v : S87} (h : v ∈ putEnv xs n m) : v ∈ xs ∨ v = ⟨n,m⟩:=by
 unfold putEnv at h
 simp only [List.mem_append,List.mem_singleton] at h
 rcases h with (h | h) | h
 ·exact .inl (List.mem_filter.1 h).1
 ·exact .inr h
 ·exact .inl (List.mem_filter.1 h).1
def names5 : List ByteArray:=[(⟨#[97]⟩ : ByteArray),(⟨#[98]⟩ : ByteArray),(⟨#[110]⟩ : ByteArray),(⟨#[120]⟩ : ByteArray),(⟨#[108,111,110,103]⟩ : ByteArray)]
theorem l03Name_is (b : List Int) (i h : Int) (hi : At b i) : ∃ r i' h',spec_l03Name.f b i h = some (r,i',h') ∧ r ∈ names5 ∧ At b i':=by
 unfold spec_l03Name.f
 obtain ⟨r,i',h',e,hr,ha⟩:=l01Pick_is b i h hi names5 (by simp [names5])
 rw [show ([(⟨#[97]⟩ : ByteArray),(⟨#[98]⟩ : ByteArray),(⟨#[110]⟩ : ByteArray),(⟨#[120]⟩ : ByteArray),(⟨#[108,111,110,103]⟩ : ByteArray)] : List ByteArray) = names5 from rfl,e,Option.bind_some]
 exact ⟨r,i',h',rfl,hr,ha⟩
theorem names5_size {n : ByteArray} (h : n ∈ names5) : n.size ≤ 4:=by
 simp only [names5,List.mem_cons,List.not_mem_nil,or_false] at h
 rcases h with rfl | rfl | rfl | rfl | rfl <;> decide
structure Drawn (c : Nat) (xs : List S87) : Prop where
 good : Good xs
 names : ∀ v ∈ xs,v.f0 ∈ names5
 len : xs.length ≤ c
theorem setEnv_drawn {c : Nat} {xs : List S87} {n : ByteArray} {m : Int} (h : Drawn c xs) (hn : n ∈ names5) : Drawn (c + 1) (setEnv xs n m).1:=by
 unfold setEnv
 by_cases d : envOkB (putEnv xs n m) = true
 ·rw [if_pos d]
  refine ⟨((envOkB_iff _).1 d).1,?_,?_⟩
  ·intro v hv
   rcases putEnv_names hv with h2 | rfl
   ·exact h.names v h2
   ·exact hn
  ·have:=putEnv_length1 xs n m
   have:=h.len
   show (putEnv xs n m).length ≤ _
   omega
 ·rw [if_neg d]
  exact ⟨h.good,h.names,by have:=h.len;show xs.length ≤ _;omega⟩
theorem l03Env_l0 (b : List Int) (d : Nat) : ∀ (k i : Nat) (xs : List S87) (j h : Int),5 - i ≤ d → d + 8000000 < k → i ≤ 4 → Drawn i xs → At b j →
  ∃ q j' h',spec_l03Env.l0 k xs (i : Int) b j h = some (q,j',h') ∧ Drawn 4 q ∧ At b j':=by
 induction d with
 | zero => intro k i xs j h hd hk hi;omega
 | succ d ih =>
  intro k i xs j h hd hk hi hx ha
  obtain ⟨k,rfl⟩ : ∃ m,k = m + 1:=⟨k - 1,by omega⟩
  obtain ⟨r,j',h',e,hr,ha'⟩:=l01Below_is b j h ha 5 (by omega)
  rw [spec_l03Env.l0,e,Option.bind_some]
  by_cases c : (i : Int) < r
  ·obtain ⟨n,j2,h2,e2,hn,ha2⟩:=l03Name_is b j' h' ha'
   obtain ⟨m,j3,h3,e3,hm,ha3⟩:=l01PickInt_is b j2 h2 ha2 [0,1,2,7,(-3),50,9999] (by simp)
   have hl:=hx.len
   rw [if_pos c]
   show ∃ q j'' h'',((spec_l03Name.f b j' h').bind _ : Option _) = _ ∧ _
   rw [e2,Option.bind_some]
   show ∃ q j'' h'',((spec_l01PickInt.f b j2 h2 [0,1,2,7,(-3),50,9999]).bind _ : Option _) = _ ∧ _
   rw [e3,Option.bind_some]
   show ∃ q j'' h'',((spec_EnvSet.f k xs n m).bind _ : Option _) = _ ∧ _
   rw [specEnvSet_is xs n m (fun y hy => by have:=names5_size (hx.names y hy);omega) (by have:=names5_size hn;omega) (by omega) k (by omega),Option.bind_some,w64_len (n:=5) (by omega) (by omega)]
   exact ih k (i + 1) _ j3 h3 (by omega) (by omega) (by omega) (setEnv_drawn hx hn) ha3
  ·rw [if_neg c]
   exact ⟨_,_,_,rfl,⟨hx.good,hx.names,by have:=hx.len;omega⟩,ha'⟩
theorem l03Env_is (b : List Int) (j h : Int) (ha : At b j) (k : Nat) (hk : 8000010 < k) : ∃ q j' h',spec_l03Env.f k b j h = some (q,j',h') ∧ Drawn 4 q ∧ At b j':=by
 unfold spec_l03Env.f
 exact l03Env_l0 b 5 k 0 [] j h (by omega) (by omega) (by omega) ⟨⟨by simp,List.Pairwise.nil⟩,by simp,by simp⟩ ha
theorem drawEnv_is (b : List Int) (hb : b.length ≤ 140737488351232) (k : Nat) (hk : 8000010 < k) : ∃ q,spec_DrawEnv.f k b = some q ∧ Drawn 4 q:=by
 unfold spec_DrawEnv.f
 obtain ⟨h,e⟩:=l01New_is b hb k (by omega)
 obtain ⟨q,j',h',e2,hq,_⟩:=l03Env_is b 0 h ⟨hb,by omega,by omega⟩ k hk
 rw [e,Option.bind_some]
 refine ⟨q,?_,hq⟩
 show (spec_l03Env.f k b 0 h).bind _ = _
 rw [e2,Option.bind_some]
theorem Ev.shift {α : Type} {g f : Nat → Option α} {r : α} (c : Nat) (h : ∀ k,g (k + c) = f k) (k : Ev f r) : Ev g r:=by
 obtain ⟨K,k⟩:=k
 refine ⟨K + c,fun n hn => ?_⟩
 obtain ⟨m,rfl⟩ : ∃ m,n = m + c:=⟨n - c,by omega⟩
 rw [h]
 exact k m (by omega)
theorem Ev.from {α : Type} {g : Nat → Option α} {r : α} (B : Nat) (h : ∀ k,B < k → g k = some r) : Ev g r:=⟨B + 1,fun k hk => h k (by omega)⟩
theorem rdInt (xs : List Int) (i : Nat) (h : i < xs.length) : rd xs (i : Int) = xs[i]:=by simp [rd,List.getD,h]
theorem within_is (a b c : Int) : impl_within.f a b c = some (decide (b ≤ a ∧ a ≤ c)):=by
 unfold impl_within.f
 by_cases h : a ≥ b
 ·rw [if_pos h];simp [show b ≤ a from h]
 ·rw [if_neg h];simp [show ¬ b ≤ a from h]
def kidIn (i : Nat) (c : Int) : Bool:=decide (0 ≤ c ∧ c ≤ (i : Int) - 1)
def kidsIn (i : Nat) (ks : List Int) : Bool:=ks.all (kidIn i)
theorem kidsIn_cons (i : Nat) (c : Int) (ks : List Int) : kidsIn i (c :: ks) = (kidIn i c && kidsIn i ks):=by simp [kidsIn]
theorem implKidsAhead_is (ks : List Int) (hl : ks.length ≤ 1048576) (i : Nat) (hi : i ≤ 9223372036854775807) (k : Nat) (hk : ks.length < k) : impl_kidsAhead.f k ks (i : Int) = some (kidsIn i ks):=by
 have go : ∀ (d k j : Nat),ks.length - j ≤ d → d < k → impl_kidsAhead.l0 k (i : Int) ks (ks.length : Int) (j : Int) = some (kidsIn i (ks.drop j)):=by
  intro d
  induction d with
  | zero =>
   intro k j hd hk
   obtain ⟨k,rfl⟩ : ∃ m,k = m + 1:=⟨k - 1,by omega⟩
   rw [impl_kidsAhead.l0,if_neg (by omega),List.drop_eq_nil_of_le (by omega)];rfl
  | succ d ih =>
   intro k j hd hk
   obtain ⟨k,rfl⟩ : ∃ m,k = m + 1:=⟨k - 1,by omega⟩
   by_cases hj : j < ks.length
   ·rw [impl_kidsAhead.l0,if_pos (by omega),if_pos (by omega),if_pos (by omega),rdInt ks j hj,within_is,Option.bind_some,w64 (n:=(i : Int) - 1) (by omega) (by omega),w64_len hj (by omega),ih k (j + 1) (by omega) (by omega),drop_get ks j hj,kidsIn_cons]
    rw [show decide (0 ≤ ks[j] ∧ ks[j] ≤ (i : Int) - 1) = kidIn i ks[j] from rfl]
    by_cases hc : kidIn i ks[j] = true
    ·rw [if_pos hc,hc,Bool.true_and]
    ·rw [if_neg hc,show kidIn i ks[j] = false from by simpa using hc,Bool.false_and]
   ·rw [impl_kidsAhead.l0,if_neg (by omega),List.drop_eq_nil_of_le (by omega)];rfl
 unfold impl_kidsAhead.f
 exact go ks.length k 0 (by omega) hk
theorem rdE (xs : List S34) (i : Nat) (h : i < xs.length) : rd_T34 xs (i : Int) = xs[i]:=by simp [rd_T34,List.getD,h]
def kidsOf (op : Int) : Int:=if op = 1 ∨ op = 2 ∨ op = 3 then 0 else if op = 11 then 1 else 2
def numOk (op num : Int) : Bool:=if op = 1 then decide (0 ≤ num ∧ num ≤ 99) else decide (num = 0)
def nameOk (op : Int) (s : ByteArray) : Bool:=if op = 2 then varNameB s else decide (s.toList = ([] : List UInt8))
def nodeB (i : Nat) (y : S34) : Bool:=decide (1 ≤ y.f0 ∧ y.f0 ≤ 11) && decide ((y.f3.length : Int) = kidsOf y.f0) && numOk y.f0 y.f1 && nameOk y.f0 y.f2 && kidsIn i y.f3
def nodesB : Nat → List S34 → Bool
 | _,[] => true
 | i,y :: l => nodeB i y && nodesB (i + 1) l
def exprOkB (xs : List S34) : Bool:=nodesB 0 xs && decide (1 ≤ (xs.length : Int) ∧ (xs.length : Int) ≤ 20)
def smallX (xs : List S34) : Prop:=xs.length ≤ 1048576 ∧ ∀ y ∈ xs,y.f2.size ≤ 1048576 ∧ y.f3.length ≤ 1048576
theorem bne_nil (s : ByteArray) : (s.toList != ([] : List UInt8)) = !decide (s.toList = ([] : List UInt8)):=by
 cases h : s.toList <;> simp
theorem nodesB_at (xs : List S34) : ∀ (j : Nat),nodesB j xs = true → ∀ (i : Nat) (h : i < xs.length),nodeB (j + i) xs[i] = true:=by
 induction xs with
 | nil => intro j _ i h;simp at h
 | cons y l ih =>
  intro j hn i h
  have hn2 : nodeB j y = true ∧ nodesB (j + 1) l = true:=by simpa [nodesB] using hn
  cases i with
  | zero => exact hn2.1
  | succ i =>
   have:=ih (j + 1) hn2.2 i (by simpa using h)
   rw [show j + (i + 1) = j + 1 + i from by omega]
   simpa using this
theorem node_facts {xs : List S34} (ho : exprOkB xs = true) (i : Nat) (h : i < xs.length) : (1 ≤ xs[i].f0 ∧ xs[i].f0 ≤ 11) ∧ (xs[i].f3.length : Int) = kidsOf xs[i].f0 ∧ ∀ c ∈ xs[i].f3,0 ≤ c ∧ c < (i : Int):=by
 have h1 : nodesB 0 xs = true:=by
  unfold exprOkB at ho
  rw [Bool.and_eq_true] at ho
  exact ho.1
 have h2:=nodesB_at xs 0 h1 i h
 rw [Nat.zero_add] at h2
 unfold nodeB at h2
 simp only [Bool.and_eq_true,decide_eq_true_eq] at h2
 obtain ⟨⟨⟨⟨a,b⟩,_⟩,_⟩,d⟩:=h2
 refine ⟨a,b,fun c hc => ?_⟩
 have:=List.all_eq_true.1 d c hc
 have : 0 ≤ c ∧ c ≤ (i : Int) - 1:=by simpa [kidIn] using this
 omega
theorem expr_pos {xs : List S34} (ho : exprOkB xs = true) : 1 ≤ xs.length ∧ xs.length ≤ 20:=by
 unfold exprOkB at ho
 rw [Bool.and_eq_true,decide_eq_true_eq] at ho
 omega
theorem rd_in (ks : List Int) (c : Int) (h0 : 0 ≤ c) (h1 : c < ks.length) : rd ks c ∈ ks:=by
 obtain ⟨n,rfl⟩:=Int.eq_ofNat_of_zero_le h0
 rw [rdInt ks n (by omega)]
 exact List.getElem_mem _
def nm3 : List ByteArray:=[(⟨#[97]⟩ : ByteArray),(⟨#[98]⟩ : ByteArray),(⟨#[110]⟩ : ByteArray)]
theorem l04Kids_is (op : Int) : spec_l04Kids.f 2 op = some (kidsOf op):=by
 unfold spec_l04Kids.f kidsOf
 by_cases h1 : op = 1
 ·rw [if_pos h1,if_pos (.inl h1),h1];rfl
 by_cases h2 : op = 2
 ·rw [if_neg h1,if_pos h2,if_pos (.inr (.inl h2)),h2];rfl
 by_cases h3 : op = 3
 ·rw [if_neg h1,if_neg h2,if_pos (.inr (.inr h3)),h3];rfl
 rw [if_neg h1,if_neg h2,if_neg (by omega),spec_l04Kids.j0,show (op == 3) = false from beq_eq_false_iff_ne.2 h3,if_neg (by simp)]
 by_cases h11 : op = 11
 ·rw [if_pos h11,if_pos h11]
 ·rw [if_neg h11,if_neg h11]
theorem nodesB_append (l l' : List S34) : ∀ j : Nat,nodesB j (l ++ l') = (nodesB j l && nodesB (j + l.length) l'):=by
 induction l with
 | nil => intro j;rfl
 | cons y l ih =>
  intro j
  show (nodeB j y && nodesB (j + 1) (l ++ l')) = ((nodeB j y && nodesB (j + 1) l) && nodesB (j + (l.length + 1)) l')
  rw [ih,Bool.and_assoc,show j + 1 + l.length = j + (l.length + 1) from by omega]
theorem l01Once_is (b : List Int) (i h : Int) (hi : At b i) : ∃ (r : Bool) (i' h' : Int),spec_l01Once.f b i h 3 = some (r,i',h') ∧ At b i':=by
 obtain ⟨r,i',h',e,hr,ha⟩:=l01Below_is b i h hi 3 (by omega)
 unfold spec_l01Once.f
 rw [e]
 exact ⟨_,_,_,rfl,ha⟩
theorem madeOp_is (b : List Int) (deep i h : Int) (hi : At b i) : ∃ op i' h',made.op b deep i h = some (op,i',h') ∧ At b i' ∧ 1 ≤ op ∧ op ≤ 11 ∧ (deep ≤ 0 → op ≤ 3):=by
 unfold made.op
 obtain ⟨r,i1,h1,e1,m1,a1⟩:=l01PickInt_is b i h hi [1,1,2,2,3] (by simp)
 have hr : 1 ≤ r ∧ r ≤ 3:=by
  simp only [List.mem_cons,List.not_mem_nil,or_false] at m1
  omega
 rw [e1,Option.bind_some]
 by_cases c : deep > 0
 ·rw [if_pos c]
  obtain ⟨o,i2,h2,e2,a2⟩:=l01Once_is b i1 h1 a1
  show ∃ op i' h',((spec_l01Once.f b i1 h1 3).bind _ : Option _) = _ ∧ _
  rw [e2,Option.bind_some]
  by_cases d : o = true
  ·rw [if_pos d]
   exact ⟨r,i2,h2,rfl,a2,hr.1,by omega,by omega⟩
  ·rw [if_neg d]
   obtain ⟨q,i3,h3,e3,m3,a3⟩:=l01PickInt_is b i2 h2 a2 [4,4,5,6,7,8,9,10,11] (by simp)
   have hq : 4 ≤ q ∧ q ≤ 11:=by
    simp only [List.mem_cons,List.not_mem_nil,or_false] at m3
    omega
   show ∃ op i' h',((spec_l01PickInt.f b i2 h2 [4,4,5,6,7,8,9,10,11]).bind _ : Option _) = _ ∧ _
   rw [e3,Option.bind_some]
   exact ⟨q,i3,h3,rfl,a3,by omega,by omega,by omega⟩
 ·rw [if_neg c]
  exact ⟨r,i1,h1,rfl,a1,hr.1,by omega,fun _ => hr.2⟩
def MadeOk (b : List Int) (m : Nat) (out : List S34) (res : Option (Int × Int × Int × List S34)) : Prop :=
 ∃ new r i' h',res = some (r,i',h',out ++ new) ∧ 0 < new.length ∧ new.length ≤ m ∧ r = ((out ++ new).length : Int) - 1 ∧ At b i' ∧ nodesB out.length new = true
theorem madeFin_is (b : List Int) (out : List S34) (x : S34) (i h : Int) (hi : At b i) (hl : out.length < 1000) (hx : nodeB out.length x = true) : MadeOk b 1 out (made.fin x i h out):=by
 unfold made.fin
 rw [if_pos (by omega)]
 refine ⟨[x],_,i,h,rfl,by simp,by simp,?_,hi,by show (nodeB out.length x && true) = true;rw [hx];rfl⟩
 rw [w64 (by simp only [List.length_append,List.length_singleton];omega) (by simp only [List.length_append,List.length_singleton];omega)]
theorem madeKids_is (b : List Int) (rec : Int → Int → List S34 → Option (Int × Int × Int × List S34)) (m : Nat) (lim : Nat) (hlim : lim ≤ 1000)
  (hrec : ∀ i h out,At b i → out.length + m < lim → MadeOk b m out (rec i h out)) (n : Nat) (d : Nat) : ∀ (k x : Nat) (ks : List Int) (i h : Int) (out : List S34),n - x = d → d < k → x ≤ n → ks.length ≤ x → At b i → out.length + d * m < lim → (d = 0 → True) → (∀ c ∈ ks,0 ≤ c ∧ c < (out.length : Int)) → n ≤ 2 →
   ∃ new ks' i' h',made.kids rec (n : Int) k (x : Int) ks i h out = some (ks',i',h',out ++ new) ∧ new.length ≤ d * m ∧ At b i' ∧ nodesB out.length new = true ∧ ks'.length = ks.length + d ∧ ∀ c ∈ ks',0 ≤ c ∧ c < ((out ++ new).length : Int):=by
 induction d with
 | zero =>
  intro k x ks i h out hd hk hx hks hi hl _ hc hn
  obtain ⟨k,rfl⟩ : ∃ q,k = q + 1:=⟨k - 1,by omega⟩
  rw [made.kids,if_neg (by omega)]
  exact ⟨[],ks,i,h,by rw [List.append_nil],by simp,hi,rfl,rfl,by rw [List.append_nil];exact hc⟩
 | succ d ih =>
  intro k x ks i h out hd hk hx hks hi hl _ hc hn
  obtain ⟨k,rfl⟩ : ∃ q,k = q + 1:=⟨k - 1,by omega⟩
  have hm : (d + 1) * m = d * m + m:=Nat.succ_mul d m
  obtain ⟨new,r,i1,h1,e,hp,hle,hr,ha,hnb⟩:=hrec i h out hi (by omega)
  rw [made.kids,if_pos (by omega),e,Option.bind_some,if_pos (by omega),w64 (by omega) (by omega)]
  obtain ⟨new2,ks2,i2,h2,e2,hl2,ha2,hn2,hk2,hc2⟩:=ih k (x + 1) (ks ++ [r]) i1 h1 (out ++ new) (by omega) (by omega) (by omega) (by simp;omega) ha (by rw [List.length_append];omega) (fun _ => trivial) (by
   intro c hcc
   rw [List.mem_append,List.mem_singleton] at hcc
   rw [List.length_append] at hr ⊢
   rcases hcc with hcc | rfl
   ·have:=hc c hcc;omega
   ·omega) hn
  refine ⟨new ++ new2,ks2,i2,h2,?_,by rw [List.length_append];omega,ha2,?_,by rw [hk2,List.length_append,List.length_singleton];omega,by rw [← List.append_assoc];exact hc2⟩
  ·rw [← List.append_assoc]
   have e3 : ((x : Int) + 1) = ((x + 1 : Nat) : Int):=by omega
   rw [e3]
   exact e2
  ·rw [nodesB_append,hnb]
   rw [List.length_append] at hn2
   rw [hn2]
   rfl
theorem nm3_ok {s : ByteArray} (h : s ∈ nm3) : varNameB s = true:=by
 simp only [nm3,List.mem_cons,List.not_mem_nil,or_false] at h
 rcases h with rfl | rfl | rfl <;> decide
theorem madeSw_is (b : List Int) (rec : Int → Int → List S34 → Option (Int × Int × Int × List S34)) (m : Nat) (op i h : Int) (out : List S34) (hi : At b i) (o1 : 1 ≤ op) (o2 : op ≤ 11) (hl : out.length + 2 * m < 1000)
  (hrec : 3 < op → ∀ i h out',At b i → out'.length + m < out.length + 2 * m + 1 → MadeOk b m out' (rec i h out')) :
  ∃ x new i' h',made.sw rec b nm3 op i h out = some (x,i',h',out ++ new) ∧ new.length ≤ 2 * m ∧ At b i' ∧ nodesB out.length new = true ∧ nodeB (out.length + new.length) x = true:=by
 unfold made.sw
 by_cases c1 : op = 1
 ·rw [if_pos c1]
  obtain ⟨q,i1,h1,e,hq,ha⟩:=l01PickInt_is b i h hi [0,1,2,3,9,99] (by simp)
  rw [e,Option.bind_some]
  refine ⟨_,[],i1,h1,by rw [List.append_nil],by simp,ha,rfl,?_⟩
  subst c1
  have hr : 0 ≤ q ∧ q ≤ 99:=by
   simp only [List.mem_cons,List.not_mem_nil,or_false] at hq
   omega
  have hd : decide (0 ≤ q ∧ q ≤ 99) = true:=decide_eq_true hr
  unfold nodeB numOk nameOk
  simp [kidsOf,kidsIn,hd]
 rw [if_neg c1]
 by_cases c2 : op = 2
 ·rw [if_pos c2,if_neg (by decide)]
  obtain ⟨q,i1,h1,e,hq,ha⟩:=l01Below_is b i h hi (nm3.length : Int) (by decide)
  rw [e,Option.bind_some,if_pos hq.1,if_pos hq.2]
  refine ⟨_,[],i1,h1,by rw [List.append_nil],by simp,ha,rfl,?_⟩
  subst c2
  have hv : varNameB (rdOf ByteArray.empty nm3 q) = true:=by
   refine nm3_ok ?_
   unfold rdOf
   rw [List.getD_eq_getElem?_getD,List.getElem?_eq_getElem (by omega),Option.getD_some]
   exact List.getElem_mem _
  unfold nodeB numOk nameOk
  simp [kidsOf,kidsIn,hv]
 rw [if_neg c2]
 by_cases c3 : op = 3
 ·rw [if_pos c3]
  refine ⟨_,[],i,h,by rw [List.append_nil],by simp,hi,rfl,?_⟩
  subst c3
  unfold nodeB numOk nameOk
  simp [kidsOf,kidsIn]
 rw [if_neg c3,l04Kids_is,Option.bind_some]
 have hkp : kidsOf op = 1 ∨ kidsOf op = 2:=by unfold kidsOf;rw [if_neg (by omega)];split <;> omega
 obtain ⟨n,hn,hn1,hn2⟩ : ∃ n : Nat,kidsOf op = (n : Int) ∧ 1 ≤ n ∧ n ≤ 2:=by
  rcases hkp with e | e
  ·exact ⟨1,e,by omega,by omega⟩
  ·exact ⟨2,e,by omega,by omega⟩
 have hnm : n * m ≤ 2 * m:=Nat.mul_le_mul_right m hn2
 obtain ⟨new,ks,i1,h1,e,hle,ha,hnb,hks,hc⟩:=madeKids_is b rec m (out.length + 2 * m + 1) (by omega) (hrec (by omega)) n n 4 0 [] i h out (by omega) (by omega) (by omega) (by simp) hi (by omega) (fun _ => trivial) (by simp) hn2
 rw [hn]
 rw [show ((0 : Nat) : Int) = 0 from rfl] at e
 rw [e,Option.bind_some]
 refine ⟨_,new,i1,h1,rfl,by omega,ha,hnb,?_⟩
 rw [List.length_append] at hc
 rw [List.length_nil,Nat.zero_add] at hks
 unfold nodeB numOk nameOk
 have hkl : ((ks.length : Nat) : Int) = kidsOf op:=by rw [hn,hks]
 have hki : kidsIn (out.length + new.length) ks = true:=by
  unfold kidsIn
  rw [List.all_eq_true]
  intro c hcc
  have:=hc c hcc
  unfold kidIn
  simp only [decide_eq_true_eq]
  omega
 simp [hkl,hki,o1,o2,c1,c2]
theorem made_is (b : List Int) (d : Nat) : ∀ (k : Nat) (i h : Int) (out : List S34),d < k → d ≤ 5 → At b i → out.length + 2 ^ (d + 1) < 1000 →
  MadeOk b (2 ^ (d + 1) - 1) out (spec_l04Made.f k b nm3 (d : Int) i h out):=by
 induction d with
 | zero =>
  intro k i h out hk _ hi hl
  obtain ⟨k,rfl⟩ : ∃ q,k = q + 1:=⟨k - 1,by omega⟩
  rw [spec_l04Made.f]
  obtain ⟨op,i1,h1,e1,a1,o1,o2,o3⟩:=madeOp_is b _ i h hi
  rw [e1,Option.bind_some]
  obtain ⟨x,new,i2,h2,e2,hle,a2,hnb,hx⟩:=madeSw_is b (fun i h out => spec_l04Made.f k b nm3 (wrap64 (((0 : Nat) : Int) - 1)) i h out) 0 op i1 h1 out a1 o1 o2 (by omega) (fun h3 => absurd (o3 (by omega)) (by omega))
  rw [e2,Option.bind_some]
  have hn0 : new = []:=List.length_eq_zero_iff.1 (by omega)
  subst hn0
  rw [List.append_nil]
  exact madeFin_is b out x i2 h2 a2 (by omega) (by simpa using hx)
 | succ d ih =>
  intro k i h out hk hd hi hl
  obtain ⟨k,rfl⟩ : ∃ q,k = q + 1:=⟨k - 1,by omega⟩
  rw [spec_l04Made.f]
  obtain ⟨op,i1,h1,e1,a1,o1,o2,o3⟩:=madeOp_is b _ i h hi
  rw [e1,Option.bind_some]
  have hpw : 2 ^ (d + 1 + 1) = 2 * 2 ^ (d + 1):=by rw [Nat.pow_succ,Nat.mul_comm]
  have hp1 : 1 ≤ 2 ^ (d + 1):=Nat.one_le_two_pow
  obtain ⟨x,new,i2,h2,e2,hle,a2,hnb,hx⟩:=madeSw_is b (fun i h out => spec_l04Made.f k b nm3 (wrap64 (((d + 1 : Nat) : Int) - 1)) i h out) (2 ^ (d + 1) - 1) op i1 h1 out a1 o1 o2 (by omega) (fun _ j g out' hj hl' => by
   show MadeOk b _ out' (spec_l04Made.f k b nm3 (wrap64 (((d + 1 : Nat) : Int) - 1)) j g out')
   rw [w64 (by omega) (by omega),show ((d + 1 : Nat) : Int) - 1 = (d : Int) from by omega]
   exact ih k j g out' (by omega) (by omega) hj (by omega))
  rw [e2,Option.bind_some]
  obtain ⟨new2,r,i3,h3,e3,hp,hl3,hr,a3,hnb3⟩:=madeFin_is b (out ++ new) x i2 h2 a2 (by rw [List.length_append];omega) (by rw [List.length_append];exact hx)
  refine ⟨new ++ new2,r,i3,h3,by rw [← List.append_assoc];exact e3,by rw [List.length_append];omega,by rw [List.length_append];omega,by rw [← List.append_assoc];exact hr,a3,?_⟩
  rw [nodesB_append,hnb]
  rw [List.length_append] at hnb3
  rw [hnb3]
  rfl
theorem l04Expr_is (b : List Int) (i h : Int) (hi : At b i) : ∃ xs i' h',spec_l04Expr.f b i h [(⟨#[97]⟩ : ByteArray),(⟨#[98]⟩ : ByteArray),(⟨#[110]⟩ : ByteArray)] 2 = some (xs,i',h') ∧ exprOkB xs = true ∧ xs.length ≤ 7 ∧ At b i':=by
 unfold spec_l04Expr.f
 obtain ⟨new,r,i',h',e,hp,hl,hr,ha,hnb⟩:=made_is b 2 4 i h [] (by omega) (by omega) hi (by simp)
 show ∃ xs i' h',((spec_l04Made.f 4 b nm3 ((2 : Nat) : Int) i h []).bind _ : Option _) = _ ∧ _
 rw [e,Option.bind_some]
 refine ⟨new,i',h',rfl,?_,by simpa using hl,ha⟩
 unfold exprOkB
 rw [Bool.and_eq_true]
 refine ⟨hnb,decide_eq_true ?_⟩
 have : new.length ≤ 7:=by simpa using hl
 omega
def Small7 (xs : List S34) : Prop:=xs.length ≤ 7 ∧ ∀ y ∈ xs,y.f2.size ≤ 4 ∧ y.f3.length ≤ 2
theorem okB_small {xs : List S34} (h : exprOkB xs = true) (hl : xs.length ≤ 7) : Small7 xs:=by
 refine ⟨hl,fun y hy => ?_⟩
 obtain ⟨i,hi,rfl⟩:=List.getElem_of_mem hy
 have h1 : nodesB 0 xs = true:=by
  unfold exprOkB at h
  rw [Bool.and_eq_true] at h
  exact h.1
 have h2:=nodesB_at xs 0 h1 i hi
 unfold nodeB at h2
 simp only [Bool.and_eq_true,decide_eq_true_eq] at h2
 obtain ⟨⟨⟨⟨a,b⟩,_⟩,hn⟩,d⟩:=h2
 refine ⟨?_,by unfold kidsOf at b;split at b <;> (try split at b) <;> omega⟩
 unfold nameOk at hn
 split at hn
 ·unfold varNameB at hn
  rw [Bool.and_eq_true,decide_eq_true_eq] at hn
  omega
 ·have e:=of_decide_eq_true hn
  have : xs[i].f2.toList.length = 0:=by rw [e];rfl
  rw [ByteArray.toList_eq,Array.length_toList] at this
  have h3 : xs[i].f2.size = 0:=this
  omega
theorem Small7.set {xs : List S34} (h : Small7 xs) (i : Nat) (y : S34) (hy : y.f2.size ≤ 4 ∧ y.f3.length ≤ 2) : Small7 (xs.set i y):=by
 refine ⟨by rw [List.length_set];exact h.1,fun z hz => ?_⟩
 rcases List.mem_or_eq_of_mem_set hz with hz | rfl
 ·exact h.2 z hz
 ·exact hy
theorem Small7.rd {xs : List S34} (h : Small7 xs) (i : Int) : (rd_T34 xs i).f2.size ≤ 4 ∧ (rd_T34 xs i).f3.length ≤ 2:=by
 unfold rd_T34
 rw [List.getD_eq_getElem?_getD]
 by_cases c : i.toNat < xs.length
 ·rw [List.getElem?_eq_getElem c,Option.getD_some]
  exact h.2 _ (List.getElem_mem c)
 ·rw [List.getElem?_eq_none (by omega)]
  exact ⟨by decide,by decide⟩
theorem Small7.x {xs : List S34} (h : Small7 xs) : smallX xs:=⟨by have:=h.1;omega,fun y hy => by have:=h.2 y hy;omega⟩
theorem l04Any_is (b : List Int) (i h : Int) (hi : At b i) : ∃ xs i' h',spec_l04Any.f b i h = some (xs,i',h') ∧ Small7 xs ∧ At b i':=by
 unfold spec_l04Any.f
 obtain ⟨q,i1,h1,e1,hq,a1⟩:=l01Below_is b i h hi 16 (by omega)
 rw [e1,Option.bind_some]
 obtain ⟨xs,i2,h2,e2,ho,hl,a2⟩:=l04Expr_is b i1 h1 a1
 show ∃ xs i' h',((spec_l04Expr.f b i1 h1 _ 2).bind _ : Option _) = _ ∧ _
 rw [e2,Option.bind_some,Option.bind_some,if_pos (by simp only [List.length_nil];omega),Option.bind_some,List.nil_append]
 have hs:=okB_small ho hl
 have hp:=expr_pos ho
 obtain ⟨n,i3,h3,e3,hn,a3⟩:=l01Below_is b i2 h2 a2 (xs.length : Int) (by omega)
 show ∃ xs' i' h',((spec_l01Below.f b i2 h2 (xs.length : Int)).bind _ : Option _) = _ ∧ _
 rw [e3,Option.bind_some]
 by_cases c0 : q = 0
 ·rw [if_pos c0]
  obtain ⟨m,i4,h4,e4,hm,a4⟩:=l01Below_is b i3 h3 a3 13 (by omega)
  show ∃ xs' i' h',((spec_l01Below.f b i3 h3 13).bind _ : Option _) = _ ∧ _
  rw [e4,Option.bind_some,if_pos hn.1,if_pos hn.2]
  exact ⟨_,_,_,rfl,hs.set _ _ (hs.rd n),a4⟩
 rw [if_neg c0]
 by_cases c1 : q = 1
 ·rw [if_pos c1]
  obtain ⟨m,i4,h4,e4,hm,a4⟩:=l01PickInt_is b i3 h3 a3 [(-1),5,99,100] (by simp)
  show ∃ xs' i' h',((spec_l01PickInt.f b i3 h3 [(-1),5,99,100]).bind _ : Option _) = _ ∧ _
  rw [e4,Option.bind_some,if_pos hn.1,if_pos hn.2]
  exact ⟨_,_,_,rfl,hs.set _ _ (hs.rd n),a4⟩
 rw [if_neg c1]
 by_cases c2 : q = 2
 ·rw [if_pos c2]
  obtain ⟨m,i4,h4,e4,hm,a4⟩:=l01PickInt_is b i3 h3 a3 [(-1),0,n] (by simp)
  show ∃ xs' i' h',((spec_l01PickInt.f b i3 h3 [(-1),0,n]).bind _ : Option _) = _ ∧ _
  rw [e4,Option.bind_some,if_pos hn.1,if_pos hn.2]
  exact ⟨_,_,_,rfl,hs.set _ _ ⟨(hs.rd n).1,by simp⟩,a4⟩
 rw [if_neg c2]
 by_cases c3 : q = 3
 ·rw [if_pos c3]
  obtain ⟨m,i4,h4,e4,hm,a4⟩:=l01Pick_is b i3 h3 a3 [(⟨#[]⟩ : ByteArray),(⟨#[97]⟩ : ByteArray),(⟨#[65]⟩ : ByteArray)] (by simp)
  show ∃ xs' i' h',((spec_l01Pick.f b i3 h3 [(⟨#[]⟩ : ByteArray),(⟨#[97]⟩ : ByteArray),(⟨#[65]⟩ : ByteArray)]).bind _ : Option _) = _ ∧ _
  rw [e4,Option.bind_some,if_pos hn.1,if_pos hn.2]
  refine ⟨_,_,_,rfl,hs.set _ _ ⟨?_,(hs.rd n).2⟩,a4⟩
  simp only [List.mem_cons,List.not_mem_nil,or_false] at hm
  show m.size ≤ 4
  rcases hm with rfl | rfl | rfl <;> decide
 rw [if_neg c3]
 by_cases c4 : q = 4
 ·rw [if_pos c4]
  exact ⟨_,_,_,rfl,⟨by simp,by simp⟩,a3⟩
 ·rw [if_neg c4]
  exact ⟨_,_,_,rfl,hs,a3⟩
theorem drawExpr_ev (b : List Int) (hb : b.length ≤ 140737488351232) : ∃ xs,Ev (fun k => spec_DrawExpr.f k b) xs ∧ exprOkB xs = true ∧ xs.length ≤ 7:=by
 obtain ⟨h,e⟩:=l01New_is b hb 4001 (by omega)
 obtain ⟨xs,i',h',e2,ho,hl,_⟩:=l04Expr_is b 0 h ⟨hb,by omega,by omega⟩
 refine ⟨xs,Ev.of (k:=4001) (spec_DrawExpr.mono b) ?_,ho,hl⟩
 unfold spec_DrawExpr.f
 rw [e,Option.bind_some]
 show (spec_l04Expr.f b 0 h _ 2).bind _ = _
 rw [e2]
 rfl
theorem rdStr (xs : List ByteArray) (i : Nat) (h : i < xs.length) : rdOf ByteArray.empty xs (i : Int) = xs[i]:=by simp [rdOf,List.getD,h]
theorem sameTexts_l0 (xs : List ByteArray) (hl : xs.length ≤ 1048576) (d : Nat) : ∀ (k i : Nat),xs.length - i ≤ d → d < k → laws_sameTexts.l0 k xs xs (i : Int) = some true:=by
 induction d with
 | zero =>
  intro k i hd hk
  obtain ⟨k,rfl⟩ : ∃ m,k = m + 1:=⟨k - 1,by omega⟩
  rw [laws_sameTexts.l0,if_neg (by omega)]
 | succ d ih =>
  intro k i hd hk
  obtain ⟨k,rfl⟩ : ∃ m,k = m + 1:=⟨k - 1,by omega⟩
  by_cases hi : i < xs.length
  ·rw [laws_sameTexts.l0,if_pos (by omega),if_pos (by omega),if_pos (by omega),if_pos rfl,w64_len hi (by omega)]
   exact ih k (i + 1) (by omega) (by omega)
  ·rw [laws_sameTexts.l0,if_neg (by omega)]
theorem sameTexts_self (xs : List ByteArray) (hl : xs.length ≤ 1048576) (k : Nat) (hk : xs.length < k) : laws_sameTexts.f k xs xs = some true:=by
 unfold laws_sameTexts.f
 rw [if_pos rfl]
 exact sameTexts_l0 xs hl xs.length k 0 (by omega) hk
def envGetL (s : ByteArray) : List S87 → Int × Bool
 | [] => (0,false)
 | v :: l => if v.f0 = s then (v.f1,true) else envGetL s l
def rdB (m : List Bool) (i : Int) : Bool:=rdOf false m i
def markKids (m : List Bool) (ks : List Int) : List Bool:=ks.foldl (fun m c => m.set c.toNat true) m
theorem markKids_length (ks : List Int) : ∀ m : List Bool,(markKids m ks).length = m.length:=by
 induction ks with
 | nil => intro m;rfl
 | cons c ks ih => intro m;show (markKids (m.set c.toNat true) ks).length = _;rw [ih,List.length_set]
def markStep (xs : List S34) (m : List Bool) (i : Nat) : List Bool:=if rdB m (i : Int) then markKids m (xs.getD i z34).f3 else m
theorem markStep_length (xs : List S34) (m : List Bool) (i : Nat) : (markStep xs m i).length = m.length:=by
 unfold markStep;split
 ·exact markKids_length _ _
 ·rfl
def marksGo (xs : List S34) : Nat → List Bool → List Bool
 | 0,m => m
 | n + 1,m => marksGo xs n (markStep xs m n)
theorem marksGo_length (xs : List S34) (n : Nat) : ∀ m : List Bool,(marksGo xs n m).length = m.length:=by
 induction n with
 | zero => intro m;rfl
 | succ n ih => intro m;show (marksGo xs n (markStep xs m n)).length = _;rw [ih,markStep_length]
def marksR (xs : List S34) : List Bool:=marksGo xs xs.length ((List.replicate xs.length false).set (xs.length - 1) true)
theorem marksR_length (xs : List S34) : (marksR xs).length = xs.length:=by unfold marksR;rw [marksGo_length];simp
def flagR (b : Bool) : Int:=if b then 1 else 0
def reckonR (op a b : Int) : Int × Bool :=
 if op = 4 then (wrap64 (a + b),true) else if op = 5 then (wrap64 (a - b),true) else if op = 6 then (wrap64 (a * b),true)
 else if op = 8 then (flagR (decide (a < b)),true) else if op = 9 then (flagR (a == b),true) else if op = 10 then (flagR (a != 0 && b != 0),true)
 else if op = 11 then (flagR (a == 0),true) else if b = 0 then (0,false) else (wrap64 (Int.tdiv a b),true)
def nodeVal (env : List S87) (here : Int) (nums : List Int) (y : S34) : Int × Bool :=
 if y.f0 = 1 then (y.f1,true) else if y.f0 = 2 then envGetL y.f2 env else if y.f0 = 3 then (here,true)
 else reckonR y.f0 (rd nums (rd y.f3 0)) (rd nums (rd y.f3 ((y.f3.length : Int) - 1)))
def evalGo (env : List S87) (here : Int) (m : List Bool) : Nat → List Int → List S34 → Int × Bool
 | _,nums,[] => (rd nums ((nums.length : Int) - 1),true)
 | i,nums,y :: l => if rdB m (i : Int) then (if (nodeVal env here nums y).2 && numB (nodeVal env here nums y).1 then evalGo env here m (i + 1) (nums.set i (nodeVal env here nums y).1) l else (0,false)) else evalGo env here m (i + 1) nums l
def evalR (xs : List S34) (env : List S87) (here : Int) : Int × Bool :=
 if exprOkB xs then evalGo env here (marksR xs) 0 (List.replicate xs.length 0) xs else (0,false)
theorem rdB_at (m : List Bool) (i : Nat) (h : i < m.length) : rdB m (i : Int) = m[i]:=by simp [rdB,rdOf,List.getD,h]
theorem rdB_set_ne (m : List Bool) (i j : Nat) (v : Bool) (h : i ≠ j) : rdB (m.set j v) (i : Int) = rdB m (i : Int):=by
 simp [rdB,rdOf,List.getD,List.getElem?_set_ne (Ne.symm h)]
theorem l03In_l0 (ns : List ByteArray) (v : ByteArray) (hl : ns.length ≤ 9223372036854775807) (d : Nat) : ∀ (k i : Nat),ns.length - i ≤ d → d < k → spec_l03In.l0 k ns v (i : Int) = some (impl_EnvOnly.has (ns.drop i) v):=by
 induction d with
 | zero =>
  intro k i hd hk
  obtain ⟨k,rfl⟩ : ∃ m,k = m + 1:=⟨k - 1,by omega⟩
  rw [spec_l03In.l0,if_neg (by omega),List.drop_eq_nil_of_le (by omega)];rfl
 | succ d ih =>
  intro k i hd hk
  obtain ⟨k,rfl⟩ : ∃ m,k = m + 1:=⟨k - 1,by omega⟩
  by_cases hi : i < ns.length
  ·rw [spec_l03In.l0,if_pos (by omega),if_pos (by omega),rdStr ns i hi,w64_len hi hl,ih k (i + 1) (by omega) (by omega),drop_get ns i hi]
   unfold impl_EnvOnly.has
   rw [List.any_cons]
   by_cases h : ns[i].toList = v.toList
   ·rw [if_pos h,h];simp
   ·rw [if_neg h,show (v.toList == ns[i].toList) = false from by simpa using fun e => h e.symm,Bool.false_or]
  ·rw [spec_l03In.l0,if_neg (by omega),List.drop_eq_nil_of_le (by omega)];rfl
theorem l03In_is (ns : List ByteArray) (v : ByteArray) (hl : ns.length ≤ 9223372036854775807) (k : Nat) (hk : ns.length < k) : spec_l03In.f k ns v = some (impl_EnvOnly.has ns v):=by
 unfold spec_l03In.f
 exact l03In_l0 ns v hl ns.length k 0 (by omega) hk
def only (ns : List ByteArray) (xs : List S87) : List S87:=xs.filter fun x => impl_EnvOnly.has ns x.f0
theorem only_length (ns : List ByteArray) (xs : List S87) : (only ns xs).length ≤ xs.length:=List.length_filter_le _ _
theorem specEnvOnly_l0 (xs : List S87) (ns : List ByteArray) (hl : xs.length ≤ 1048576) (hn : ns.length ≤ 1048576) (d : Nat) : ∀ (k i : Nat) (out : List S87),xs.length - i ≤ d → d + 1048580 < k → out.length ≤ i →
  spec_EnvOnly.l0 k xs ns out (i : Int) = some (out ++ only ns (xs.drop i)):=by
 induction d with
 | zero =>
  intro k i out hd hk ho
  obtain ⟨k,rfl⟩ : ∃ m,k = m + 1:=⟨k - 1,by omega⟩
  rw [spec_EnvOnly.l0,if_neg (by omega),List.drop_eq_nil_of_le (by omega),show only ns [] = [] from rfl,List.append_nil]
 | succ d ih =>
  intro k i out hd hk ho
  obtain ⟨k,rfl⟩ : ∃ m,k = m + 1:=⟨k - 1,by omega⟩
  by_cases hi : i < xs.length
  ·rw [spec_EnvOnly.l0,if_pos (by omega),if_pos (by omega),rdI' xs i hi,l03In_is ns _ (by omega) k (by omega),Option.bind_some,w64_len hi (by omega),drop_get xs i hi]
   by_cases h : impl_EnvOnly.has ns xs[i].f0 = true
   ·rw [if_pos h,if_pos (by omega),ih k (i + 1) _ (by omega) (by omega) (by simp;omega),List.append_assoc]
    unfold only
    rw [List.filter_cons,if_pos h]
    rfl
   ·rw [if_neg h,ih k (i + 1) _ (by omega) (by omega) (by omega)]
    unfold only
    rw [List.filter_cons,if_neg h]
  ·rw [spec_EnvOnly.l0,if_neg (by omega),List.drop_eq_nil_of_le (by omega),show only ns [] = [] from rfl,List.append_nil]
theorem specEnvOnly_is (xs : List S87) (ns : List ByteArray) (hl : xs.length ≤ 1048576) (hn : ns.length ≤ 1048576) (k : Nat) (hk : 3000000 < k) : spec_EnvOnly.f k xs ns = some (only ns xs):=by
 unfold spec_EnvOnly.f
 exact specEnvOnly_l0 xs ns hl hn xs.length k 0 [] (by omega) (by omega) (by simp)
theorem envGet_only (ns : List ByteArray) (v : ByteArray) (h : impl_EnvOnly.has ns v = true) (vs : List S87) : envGetL v (only ns vs) = envGetL v vs:=by
 induction vs with
 | nil => rfl
 | cons x vs ih =>
  unfold only
  rw [List.filter_cons]
  by_cases c : impl_EnvOnly.has ns x.f0 = true
  ·rw [if_pos c]
   show (if x.f0 = v then _ else envGetL v (only ns vs)) = (if x.f0 = v then _ else envGetL v vs)
   rw [ih]
  ·rw [if_neg c]
   show envGetL v (only ns vs) = (if x.f0 = v then _ else envGetL v vs)
   rw [ih,if_neg (fun e => c (by rw [e];exact h))]
theorem evalGo_only (ns : List ByteArray) (vs : List S87) (here : Int) (m : List Bool) (l : List S34) : ∀ (i : Nat) (nums : List Int),(∀ y ∈ l,y.f0 = 2 → impl_EnvOnly.has ns y.f2 = true) → evalGo (only ns vs) here m i nums l = evalGo vs here m i nums l:=by
 induction l with
 | nil => intro i nums _;rfl
 | cons y l ih =>
  intro i nums h
  have hv : nodeVal (only ns vs) here nums y = nodeVal vs here nums y:=by
   unfold nodeVal
   by_cases h1 : y.f0 = 1
   ·rw [if_pos h1,if_pos h1]
   by_cases h2 : y.f0 = 2
   ·rw [if_neg h1,if_neg h1,if_pos h2,if_pos h2,envGet_only ns y.f2 (h y (List.mem_cons_self ..) h2)]
   ·rw [if_neg h1,if_neg h1,if_neg h2,if_neg h2]
  have hl : ∀ i nums,evalGo (only ns vs) here m i nums l = evalGo vs here m i nums l:=fun i nums => ih i nums (fun z hz => h z (List.mem_cons_of_mem _ hz))
  show (if rdB m (i : Int) then (if (nodeVal (only ns vs) here nums y).2 && numB (nodeVal (only ns vs) here nums y).1 then evalGo (only ns vs) here m (i + 1) (nums.set i (nodeVal (only ns vs) here nums y).1) l else (0,false)) else evalGo (only ns vs) here m (i + 1) nums l) = _
  rw [hv,hl,hl]
  rfl
theorem evalR_only (ns : List ByteArray) (xs : List S34) (vs : List S87) (here : Int) (h : ∀ y ∈ xs,y.f0 = 2 → impl_EnvOnly.has ns y.f2 = true) : evalR xs (only ns vs) here = evalR xs vs here:=by
 unfold evalR
 rw [evalGo_only ns vs here _ xs 0 _ h]
abbrev LB:=List UInt8
theorem lb_irrefl (x : LB) : ¬ x < x:=List.lt_irrefl x
theorem lb_trans {x y z : LB} (h : x < y) (k : y < z) : x < z:=List.lt_trans h k
theorem lb_asymm {x y : LB} (h : x < y) : ¬ y < x:=fun k => lb_irrefl x (lb_trans h k)
theorem lb_total {x y : LB} (h : ¬ x < y) (k : ¬ y < x) : x = y:=List.le_antisymm k h
theorem asc_ext : ∀ {a b : List LB},a.Pairwise (· < ·) → b.Pairwise (· < ·) → (∀ x,x ∈ a ↔ x ∈ b) → a = b
 | [],[],_,_,_ => rfl
 | [],y :: b,_,_,h => by have:=(h y).2 (by simp);cases this
 | x :: a,[],_,_,h => by have:=(h x).1 (by simp);cases this
 | x :: a,y :: b,ha,hb,h => by
  obtain ⟨a1,a2⟩:=List.pairwise_cons.1 ha
  obtain ⟨b1,b2⟩:=List.pairwise_cons.1 hb
  have e : x = y:=by
   have h1:=(h x).1 (by simp)
   have h2:=(h y).2 (by simp)
   rw [List.mem_cons] at h1 h2
   rcases h1 with h1 | h1
   ·exact h1
   ·rcases h2 with h2 | h2
    ·exact h2.symm
    ·exact absurd (a1 y h2) (lb_asymm (b1 x h1))
  subst e
  rw [asc_ext a2 b2 (fun z => by
   have hz:=h z
   rw [List.mem_cons,List.mem_cons] at hz
   constructor
   ·intro hm
    rcases hz.1 (.inr hm) with e | e
    ·subst e;exact absurd (a1 z hm) (lb_irrefl z)
    ·exact e
   ·intro hm
    rcases hz.2 (.inr hm) with e | e
    ·subst e;exact absurd (b1 z hm) (lb_irrefl z)
    ·exact e)]
def putL (L : List LB) (s : LB) : List LB:=L.filter (fun x => decide (x < s)) ++ (s :: L.filter (fun x => decide (s < x)))
theorem putL_mem (L : List LB) (s x : LB) : x ∈ putL L s ↔ x ∈ L ∨ x = s:=by
 unfold putL
 rw [List.mem_append,List.mem_cons,List.mem_filter,List.mem_filter,decide_eq_true_iff,decide_eq_true_iff]
 constructor
 ·rintro (h | h | h)
  ·exact .inl h.1
  ·exact .inr h
  ·exact .inl h.1
 ·rintro (h | h)
  ·by_cases c : x < s
   ·exact .inl ⟨h,c⟩
   ·by_cases d : s < x
    ·exact .inr (.inr ⟨h,d⟩)
    ·exact .inr (.inl (lb_total c d))
  ·exact .inr (.inl h)
theorem putL_asc {L : List LB} (h : L.Pairwise (· < ·)) (s : LB) : (putL L s).Pairwise (· < ·):=by
 unfold putL
 refine List.pairwise_append.2 ⟨h.filter _,List.pairwise_cons.2 ⟨fun x hx => ?_,h.filter _⟩,fun x hx y hy => ?_⟩
 ·exact of_decide_eq_true (List.mem_filter.1 hx).2
 ·have h1 : x < s:=of_decide_eq_true (List.mem_filter.1 hx).2
  rw [List.mem_cons] at hy
  rcases hy with rfl | hy
  ·exact h1
  ·exact lb_trans h1 (of_decide_eq_true (List.mem_filter.1 hy).2)
theorem foldPut (l : List LB) : ∀ L : List LB,L.Pairwise (· < ·) → (l.foldl putL L).Pairwise (· < ·) ∧ ∀ x,x ∈ l.foldl putL L ↔ x ∈ L ∨ x ∈ l:=by
 induction l with
 | nil => intro L h;exact ⟨h,fun x => by simp⟩
 | cons s l ih =>
  intro L h
  obtain ⟨h1,h2⟩:=ih (putL L s) (putL_asc h s)
  refine ⟨h1,fun x => ?_⟩
  rw [List.foldl_cons,h2 x,putL_mem,List.mem_cons,or_assoc]
theorem sorted_ms (l : List LB) : (l.mergeSort fun x y => decide (x ≤ y)).Pairwise (fun x y => ¬ y < x):=by
 have h:=List.pairwise_mergeSort (le:=fun x y : LB => decide (x ≤ y)) (fun a b c h1 h2 => by
  simp only [decide_eq_true_iff] at h1 h2 ⊢
  exact List.le_trans h1 h2) (fun a b => by
  simp only [Bool.or_eq_true,decide_eq_true_iff]
  exact List.le_total a b) l
 exact h.imp (fun h => of_decide_eq_true h)
theorem compact_upto (zs : List LB) (hs : zs.Pairwise (fun x y => ¬ y < x)) : ∀ m,m ≤ zs.length → (Go.Lib.compactUpTo zs.toArray m).Pairwise (· < ·) ∧ ∀ x,x ∈ Go.Lib.compactUpTo zs.toArray m ↔ x ∈ zs.take m:=by
 intro m
 induction m with
 | zero => intro _;exact ⟨List.Pairwise.nil,fun x => by simp [Go.Lib.compactUpTo]⟩
 | succ m ih =>
  intro hm
  obtain ⟨i1,i2⟩:=ih (by omega)
  have hget : ∀ j (hj : j < zs.length),zs.toArray[j]! = zs[j]:=fun j hj => by simp [hj]
  have htk : zs.take (m + 1) = zs.take m ++ [zs[m]]:=by rw [List.take_add_one,List.getElem?_eq_getElem (by omega)];rfl
  have hpw:=List.pairwise_iff_getElem.1 hs
  rw [Go.Lib.compactUpTo_succ]
  by_cases hk : Go.Lib.keeps zs.toArray m = true
  ·rw [if_pos hk,hget m (by omega),htk]
   refine ⟨List.pairwise_append.2 ⟨i1,List.pairwise_singleton _ _,fun x hx y hy => ?_⟩,fun x => by rw [List.mem_append,List.mem_append,i2]⟩
   rw [List.mem_singleton] at hy
   subst hy
   have hx':=(i2 x).1 hx
   obtain ⟨j,hj,rfl⟩:=List.getElem_of_mem hx'
   rw [List.length_take] at hj
   rw [List.getElem_take]
   have hle : ¬ zs[m] < zs[j]:=hpw j m (by omega) (by omega) (by omega)
   by_cases c : zs[j] < zs[m]
   ·exact c
   ·exfalso
    have he : zs[j] = zs[m]:=lb_total c hle
    have h1 : ¬ zs[m - 1] < zs[j]:=by
     by_cases e : j = m - 1
     ·subst e;exact lb_irrefl _
     ·exact hpw j (m - 1) (by omega) (by omega) (by omega)
    have h2 : ¬ zs[m] < zs[m - 1]:=hpw (m - 1) m (by omega) (by omega) (by omega)
    rw [← he] at h2
    have h3 : zs[j] = zs[m - 1]:=lb_total h2 h1
    rw [Go.Lib.keeps_neg (by omega) (by rw [hget m (by omega),hget (m - 1) (by omega),← he,h3])] at hk
    cases hk
  ·rw [if_neg hk,List.append_nil,htk]
   refine ⟨i1,fun x => ?_⟩
   rw [i2,List.mem_append,List.mem_singleton]
   constructor
   ·exact .inl
   ·rintro (h | rfl)
    ·exact h
    ·have hm0 : m ≠ 0:=by
      rintro rfl
      exact hk (Go.Lib.keeps_lt_one _ 0 (by omega))
     have he : zs[m] = zs[m - 1]:=by
      by_cases c : zs[m] = zs[m - 1]
      ·exact c
      ·exact absurd (Go.Lib.keeps_pos (by rw [hget m (by omega),hget (m - 1) (by omega)];exact c)) hk
     rw [he,List.mem_take_iff_getElem]
     exact ⟨m - 1,by omega,rfl⟩
theorem sort_put (l : List LB) : Go.Lib.compact (l.mergeSort fun x y => decide (x ≤ y)) = l.foldl putL []:=by
 have h1:=compact_upto _ (sorted_ms l) _ (Nat.le_refl _)
 have h2:=foldPut l [] List.Pairwise.nil
 refine asc_ext h1.1 h2.1 (fun x => ?_)
 rw [h2.2 x]
 have:=h1.2 x
 rw [List.take_length] at this
 exact this.trans (by rw [List.mem_mergeSort];simp)
section
variable (xs : List S34) (hz : smallX xs) (i : Nat) (hi : i < xs.length) (op num : Int) (s : ByteArray) (hs : s.size ≤ 1048576) (ks : List Int) (hk : ks.length ≤ 1048576) (r : Bool)
theorem specExpr_l1 (hi : i < 9223372036854775807) (hk : ks.length ≤ 1048576) (hn : Ev (fun k => spec_ExprOk.l0 k (wrap64 ((i : Int) + 1)) xs) r) (d : Nat) : ∀ j : Nat,ks.length - j = d → j ≤ ks.length →
  Ev (fun k => spec_ExprOk.l1 k (i : Int) (j : Int) xs op num s ks) (if kidsIn i (ks.drop j) then r else false):=by
 induction d with
 | zero =>
  intro j hd hj
  rw [List.drop_eq_nil_of_le (show ks.length ≤ j by omega),if_pos (by rfl)]
  refine Ev.shift 1 (fun k => ?_) hn
  rw [spec_ExprOk.l1,if_neg (by omega)]
 | succ d ih =>
  intro j hd hj
  have hj2 : j < ks.length:=by omega
  have e:=ih (j + 1) (by omega) (by omega)
  rw [drop_get ks j hj2,kidsIn_cons]
  by_cases hc : kidIn i ks[j] = true
  ·rw [hc,Bool.true_and]
   refine Ev.shift 1 (fun k => ?_) e
   have hc2 : decide (0 ≤ ks[j] ∧ ks[j] ≤ (i : Int) - 1) = true:=hc
   rw [spec_ExprOk.l1,if_pos (by omega),if_pos (by omega),rdInt ks j hj2,l01In_is,Option.bind_some,w64 (n:=(i : Int) - 1) (by omega) (by omega),hc2,if_pos (show true = true from rfl),w64_len hj2 (by omega)]
  ·have hc' : kidIn i ks[j] = false:=by simpa using hc
   rw [hc',Bool.false_and,if_neg (by simp)]
   refine Ev.shift 1 (f:=fun _ => some false) (fun k => ?_) (Ev.now _)
   have hc2 : decide (0 ≤ ks[j] ∧ ks[j] ≤ (i : Int) - 1) = false:=hc'
   rw [spec_ExprOk.l1,if_pos (by omega),if_pos (by omega),rdInt ks j hj2,l01In_is,Option.bind_some,w64 (n:=(i : Int) - 1) (by omega) (by omega),hc2,if_neg (by simp)]
theorem specExpr_j2 (hi : i < 9223372036854775807) (hk : ks.length ≤ 1048576) (hn : Ev (fun k => spec_ExprOk.l0 k (wrap64 ((i : Int) + 1)) xs) r) (b : Bool) :
  Ev (fun k => spec_ExprOk.j2 k (i : Int) b xs op num s ks) (if !b && kidsIn i ks then r else false):=by
 cases b with
 | true =>
  refine Ev.shift 1 (f:=fun _ => some false) (fun k => ?_) (Ev.now _)
  rw [spec_ExprOk.j2,if_pos (show true = true from rfl)]
 | false =>
  have e:=specExpr_l1 xs i op num s ks r hi hk hn ks.length 0 (by omega) (by omega)
  rw [List.drop_zero] at e
  refine Ev.shift 1 (fun k => ?_) e
  rw [spec_ExprOk.j2,if_neg (by simp)];rfl
theorem specExpr_j1 (hi : i < 9223372036854775807) (hk : ks.length ≤ 1048576) (hs : s.size ≤ 1048576) (hn : Ev (fun k => spec_ExprOk.l0 k (wrap64 ((i : Int) + 1)) xs) r) (b : Bool) :
  Ev (fun k => spec_ExprOk.j1 k (i : Int) b xs op num s ks) (if !b && numOk op num && nameOk op s && kidsIn i ks then r else false):=by
 have J:=specExpr_j2 xs i op num s ks r hi hk hn
 have hv : Ev (fun k => spec_VarName.f k s) (varNameB s):=Ev.from s.size (fun k hk => specVarName_is s (by omega) k hk)
 cases b with
 | true =>
  refine Ev.shift 1 (f:=fun _ => some false) (fun k => ?_) (Ev.now _)
  rw [spec_ExprOk.j1,if_pos (show true = true from rfl)]
 | false =>
  have name : ∀ c : Bool,c = true → Ev (fun k => if op = 2 then ((spec_VarName.f k s).bind fun t => (if t = true then spec_ExprOk.j2 k (i : Int) false xs op num s ks else spec_ExprOk.j2 k (i : Int) true xs op num s ks)) else spec_ExprOk.j2 k (i : Int) (s.toList != ([] : List UInt8)) xs op num s ks) (if nameOk op s && kidsIn i ks then r else false):=by
   intro _ _
   by_cases h2 : op = 2
   ·refine Ev.congr (fun k => if_pos h2) (Ev.bind hv ?_)
    have hnm : nameOk op s = varNameB s:=by unfold nameOk;rw [if_pos h2]
    rw [hnm]
    by_cases hb : varNameB s = true
    ·rw [hb];exact Ev.congr (fun k => if_pos rfl) (J false)
    ·rw [show varNameB s = false from by simpa using hb];exact Ev.congr (fun k => if_neg (by simp)) (J true)
   ·refine Ev.congr (fun k => if_neg h2) ?_
    have hnm : nameOk op s = !(s.toList != ([] : List UInt8)):=by unfold nameOk;rw [if_neg h2,bne_nil,Bool.not_not]
    rw [hnm]
    exact J _
  by_cases h1 : op = 1
  ·have hnum : numOk op num = decide (0 ≤ num ∧ num ≤ 99):=by unfold numOk;rw [if_pos h1]
   refine Ev.shift 1 (f:=fun k => (spec_l01In.f num 0 99).bind fun t => (if t = true then (if op = 2 then ((spec_VarName.f k s).bind fun t => (if t = true then spec_ExprOk.j2 k (i : Int) false xs op num s ks else spec_ExprOk.j2 k (i : Int) true xs op num s ks)) else spec_ExprOk.j2 k (i : Int) (s.toList != ([] : List UInt8)) xs op num s ks) else spec_ExprOk.j2 k (i : Int) true xs op num s ks)) (fun k => ?_) ?_
   ·rw [spec_ExprOk.j1,if_neg (by simp),if_pos h1]
   ·rw [l01In_is,hnum]
    simp only [Option.bind_some,Bool.not_false,Bool.true_and]
    by_cases hb : decide (0 ≤ num ∧ num ≤ 99) = true
    ·rw [hb];exact Ev.congr (fun k => if_pos rfl) (name true rfl)
    ·rw [show decide (0 ≤ num ∧ num ≤ 99) = false from by simpa using hb];exact Ev.congr (fun k => if_neg (by simp)) (J true)
  ·have hnum : numOk op num = decide (num = 0):=by unfold numOk;rw [if_neg h1]
   by_cases h0 : num = 0
   ·refine Ev.shift 1 (f:=fun k => if op = 2 then ((spec_VarName.f k s).bind fun t => (if t = true then spec_ExprOk.j2 k (i : Int) false xs op num s ks else spec_ExprOk.j2 k (i : Int) true xs op num s ks)) else spec_ExprOk.j2 k (i : Int) (s.toList != ([] : List UInt8)) xs op num s ks) (fun k => ?_) ?_
    ·rw [spec_ExprOk.j1,if_neg (by simp),if_neg h1,if_pos h0]
    ·rw [hnum,show decide (num = 0) = true from decide_eq_true h0]
     exact name true rfl
   ·refine Ev.shift 1 (f:=fun k => spec_ExprOk.j2 k (i : Int) true xs op num s ks) (fun k => ?_) ?_
    ·rw [spec_ExprOk.j1,if_neg (by simp),if_neg h1,if_neg h0]
    ·rw [hnum,show decide (num = 0) = false from decide_eq_false h0]
     exact J true
end
theorem specKids_ev (op : Int) : Ev (fun k => spec_l04Kids.f k op) (kidsOf op):=by
 have j : ∀ b : Bool,Ev (fun k => spec_l04Kids.j0 k op b) (if b then 0 else if op = 11 then 1 else 2):=by
  intro b
  refine Ev.shift 1 (f:=fun _ => some (if b then 0 else if op = 11 then 1 else 2)) (fun k => ?_) (Ev.now _)
  rw [spec_l04Kids.j0]
  cases b <;> simp
  split <;> rfl
 unfold spec_l04Kids.f kidsOf
 by_cases h1 : op = 1
 ·rw [if_pos (.inl h1)]
  have e:=j (op == 1)
  rw [show (op == 1) = true from by simpa using h1] at e
  exact Ev.congr (fun k => by rw [if_pos h1,show (op == 1) = true from by simpa using h1]) e
 ·by_cases h2 : op = 2
  ·rw [if_pos (.inr (.inl h2))]
   have e:=j (op == 2)
   rw [show (op == 2) = true from by simpa using h2] at e
   exact Ev.congr (fun k => by rw [if_neg h1,if_pos h2,show (op == 2) = true from by simpa using h2]) e
  ·by_cases h3 : op = 3
   ·rw [if_pos (.inr (.inr h3))]
    have e:=j (op == 3)
    rw [show (op == 3) = true from by simpa using h3] at e
    exact Ev.congr (fun k => by rw [if_neg h1,if_neg h2,show (op == 3) = true from by simpa using h3]) e
   ·rw [if_neg (by rintro (h | h | h) <;> contradiction)]
    have e:=j (op == 3)
    rw [show (op == 3) = false from by simpa using h3] at e
    exact Ev.congr (fun k => by rw [if_neg h1,if_neg h2,show (op == 3) = false from by simpa using h3]) e
theorem specExpr_l0 (xs : List S34) (hz : smallX xs) (d : Nat) : ∀ i : Nat,xs.length - i = d → i ≤ xs.length →
  Ev (fun k => spec_ExprOk.l0 k (i : Int) xs) (nodesB i (xs.drop i) && decide (1 ≤ (xs.length : Int) ∧ (xs.length : Int) ≤ 20)):=by
 have hl:=hz.1
 induction d with
 | zero =>
  intro i hd hi
  refine Ev.shift 1 (f:=fun _ => some _) (fun k => ?_) (Ev.now _)
  rw [spec_ExprOk.l0,if_neg (by omega),List.drop_eq_nil_of_le (by omega),l01In_is];rfl
 | succ d ih =>
  intro i hd hi
  have hi2 : i < xs.length:=by omega
  have e:=ih (i + 1) (by omega) (by omega)
  have hy:=hz.2 _ (List.getElem_mem hi2)
  rw [← w64_len hi2 (by omega)] at e
  have J:=specExpr_j1 xs i xs[i].f0 xs[i].f1 xs[i].f2 xs[i].f3 _ (by omega) hy.2 hy.1 e
  rw [drop_get xs i hi2]
  refine Ev.shift 1 (f:=fun k => (spec_l01In.f xs[i].f0 1 11).bind fun t => (if t = true then ((spec_l04Kids.f k xs[i].f0).bind fun t2 => (spec_ExprOk.j1 k (i : Int) (((xs[i].f3.length : Int)) != t2) xs xs[i].f0 xs[i].f1 xs[i].f2 xs[i].f3)) else (spec_ExprOk.j1 k (i : Int) true xs xs[i].f0 xs[i].f1 xs[i].f2 xs[i].f3))) (fun k => ?_) ?_
  ·rw [spec_ExprOk.l0,if_pos (by omega),if_pos (by omega),rdE xs i hi2]
  ·rw [l01In_is]
   simp only [Option.bind_some]
   have hgoal : (nodesB i (xs[i] :: xs.drop (i + 1)) && decide (1 ≤ (xs.length : Int) ∧ (xs.length : Int) ≤ 20)) = (if nodeB i xs[i] then nodesB (i + 1) (xs.drop (i + 1)) && decide (1 ≤ (xs.length : Int) ∧ (xs.length : Int) ≤ 20) else false):=by
    simp only [nodesB];cases nodeB i xs[i] <;> simp
   rw [hgoal]
   by_cases hr : decide (1 ≤ xs[i].f0 ∧ xs[i].f0 ≤ 11) = true
   ·refine Ev.congr (fun k => if_pos hr) (Ev.bind (specKids_ev _) ?_)
    have j:=J ((xs[i].f3.length : Int) != kidsOf xs[i].f0)
    have hb : nodeB i xs[i] = (!((xs[i].f3.length : Int) != kidsOf xs[i].f0) && numOk xs[i].f0 xs[i].f1 && nameOk xs[i].f0 xs[i].f2 && kidsIn i xs[i].f3):=by
     unfold nodeB
     rw [hr,Bool.true_and]
     congr 3
     by_cases hq : (xs[i].f3.length : Int) = kidsOf xs[i].f0 <;> simp [hq]
    rw [hb]
    exact j
   ·refine Ev.congr (fun k => if_neg hr) ?_
    have hb : nodeB i xs[i] = false:=by unfold nodeB;rw [show decide (1 ≤ xs[i].f0 ∧ xs[i].f0 ≤ 11) = false from by simpa using hr];simp
    rw [hb]
    exact J true
theorem specExprOk_ev (xs : List S34) (hz : smallX xs) : Ev (fun k => spec_ExprOk.f k xs) (exprOkB xs) :=
 specExpr_l0 xs hz xs.length 0 (by omega) (by omega)
theorem isSmall_is (s : ByteArray) (i : Int) : impl_isSmall.f (bt s i) = some (decide (97 ≤ bt s i ∧ bt s i ≤ 122)):=by
 unfold impl_isSmall.f
 rw [w64_bt,within_is];rfl
theorem implVarName_l0 (s : ByteArray) (hs : s.size ≤ 140737488351232) (d : Nat) : ∀ (k i : Nat),s.size - i ≤ d → d < k →
  impl_VarName.l0 k s (s.size : Int) (i : Int) = some (((bs s).drop i).all small && decide (1 ≤ (s.size : Int) ∧ (s.size : Int) ≤ 4)):=by
 induction d with
 | zero =>
  intro k i hd hk
  obtain ⟨k,rfl⟩ : ∃ m,k = m + 1:=⟨k - 1,by omega⟩
  simp only [impl_VarName.l0]
  rw [if_neg (by omega),within_is,bs_drop_nil s i (by omega)];simp
 | succ d ih =>
  intro k i hd hk
  obtain ⟨k,rfl⟩ : ∃ m,k = m + 1:=⟨k - 1,by omega⟩
  by_cases hi : i < s.size
  ·have e:=ih k (i + 1) (by omega) (by omega)
   simp only [impl_VarName.l0]
   rw [if_pos (by omega),if_pos (by omega),if_pos (by omega),isSmall_is,Option.bind_some,w64_succ hi hs,e,bs_drop s i hi]
   simp only [List.all_cons]
   by_cases h1 : 97 ≤ bt s i ∧ bt s i ≤ 122
   ·rw [if_pos (by simpa using h1),show small (bt s i) = true from by simp [small];omega];simp
   ·rw [if_neg (by simpa using h1),show small (bt s i) = false from by simp [small];omega];simp
  ·simp only [impl_VarName.l0]
   rw [if_neg (by omega),within_is,bs_drop_nil s i (by omega)];simp
theorem implVarName_is (s : ByteArray) (hs : s.size ≤ 140737488351232) (k : Nat) (hk : s.size < k) : impl_VarName.f k s = some (varNameB s):=by
 unfold impl_VarName.f
 exact implVarName_l0 s hs s.size k 0 (by omega) hk
theorem implKidCount_is (op : Int) : impl_kidCount.f op = some (if 1 ≤ op ∧ op ≤ 11 then kidsOf op else -1):=by
 unfold impl_kidCount.f kidsOf
 rw [within_is,Option.bind_some]
 by_cases h1 : 1 ≤ op ∧ op ≤ 3
 ·rw [if_pos (decide_eq_true h1),if_pos (by omega),if_pos (by omega)]
 ·rw [if_neg (by simpa using h1),within_is,Option.bind_some]
  by_cases h2 : 4 ≤ op ∧ op ≤ 10
  ·rw [if_pos (decide_eq_true h2),if_pos (by omega),if_neg (by omega),if_neg (by omega)]
  ·rw [if_neg (by simpa using h2)]
   by_cases h3 : op = 11
   ·rw [if_pos h3,if_pos (by omega),if_neg (by omega),if_pos h3]
   ·rw [if_neg h3,if_neg (by omega)]
theorem implNode_j0 (op num : Int) (s : ByteArray) (hs : s.size ≤ 1048576) (ks : List Int) (b : Bool) (k : Nat) (hk : 1048577 < k) :
  impl_exNodeOk.j0 k b op num s ks = some (!b && numOk op num && nameOk op s):=by
 obtain ⟨k,rfl⟩ : ∃ m,k = m + 1:=⟨k - 1,by omega⟩
 rw [impl_exNodeOk.j0]
 cases b with
 | true => rw [if_pos (show true = true from rfl)];rfl
 | false =>
  rw [if_neg (by simp),implVarName_is s (by omega) k (by omega),within_is]
  simp only [Option.bind_some,Bool.not_false,Bool.true_and]
  unfold numOk nameOk
  by_cases h2 : op = 2
  ·have h1 : ¬ op = 1:=by omega
   by_cases h0 : num = 0
   ·by_cases he : s.toList = ([] : List UInt8)
    ·simp [h2,h0,he]
    ·simp [h2,h0,he]
   ·by_cases he : s.toList = ([] : List UInt8)
    ·simp [h2,h0,he]
    ·simp [h2,h0,he]
  ·by_cases h1 : op = 1
   ·by_cases h0 : num = 0
    ·by_cases he : s.toList = ([] : List UInt8)
     ·simp [h1,h0,he]
     ·simp [h1,h0,he]
    ·by_cases he : s.toList = ([] : List UInt8)
     ·by_cases hr : 0 ≤ num ∧ num ≤ 99
      ·simp [h1,h0,he,hr]
      ·simp [h1,h0,he,if_neg hr];intro h;omega
     ·by_cases hr : 0 ≤ num ∧ num ≤ 99
      ·simp [h1,h0,he]
      ·simp [h1,h0,he]
   ·by_cases h0 : num = 0
    ·by_cases he : s.toList = ([] : List UInt8)
     ·simp [h1,h2,h0,he]
     ·simp [h1,h2,h0,he]
    ·by_cases he : s.toList = ([] : List UInt8)
     ·simp [h1,h2,h0,he]
     ·simp [h1,h2,h0,he]
theorem implNode_is (i : Nat) (hi : i ≤ 1048576) (y : S34) (hy : y.f2.size ≤ 1048576 ∧ y.f3.length ≤ 1048576) (k : Nat) (hk : 1048577 < k) : impl_exNodeOk.f k y.f0 y.f1 y.f2 y.f3 (i : Int) = some (nodeB i y):=by
 unfold impl_exNodeOk.f nodeB
 rw [implKidCount_is,Option.bind_some]
 by_cases hr : 1 ≤ y.f0 ∧ y.f0 ≤ 11
 ·rw [if_pos hr,show decide (1 ≤ y.f0 ∧ y.f0 ≤ 11) = true from decide_eq_true hr,Bool.true_and]
  by_cases hq : (y.f3.length : Int) = kidsOf y.f0
  ·rw [if_pos hq,implKidsAhead_is y.f3 hy.2 i (by omega) k (by omega),Option.bind_some,implNode_j0 _ _ _ hy.1 _ _ k hk,show decide ((y.f3.length : Int) = kidsOf y.f0) = true from decide_eq_true hq]
   congr 1
   cases kidsIn i y.f3 <;> simp
  ·rw [if_neg hq,implNode_j0 _ _ _ hy.1 _ _ k hk,show decide ((y.f3.length : Int) = kidsOf y.f0) = false from decide_eq_false hq];simp
 ·rw [if_neg hr,show decide (1 ≤ y.f0 ∧ y.f0 ≤ 11) = false from decide_eq_false hr,if_neg (by omega),implNode_j0 _ _ _ hy.1 _ _ k hk];simp
theorem implExprOk_is (xs : List S34) (hz : smallX xs) (k : Nat) (hk : xs.length + 1048578 < k) : impl_ExprOk.f k xs = some (exprOkB xs):=by
 have hl:=hz.1
 have go : ∀ (d k i : Nat),xs.length - i ≤ d → d + 1048578 < k → impl_ExprOk.l0 k xs (xs.length : Int) (i : Int) xs = some (nodesB i (xs.drop i) && decide (1 ≤ (xs.length : Int) ∧ (xs.length : Int) ≤ 20)):=by
  intro d
  induction d with
  | zero =>
   intro k i hd hk
   obtain ⟨k,rfl⟩ : ∃ m,k = m + 1:=⟨k - 1,by omega⟩
   rw [impl_ExprOk.l0,if_neg (by omega),List.drop_eq_nil_of_le (by omega),within_is];rfl
  | succ d ih =>
   intro k i hd hk
   obtain ⟨k,rfl⟩ : ∃ m,k = m + 1:=⟨k - 1,by omega⟩
   by_cases hi : i < xs.length
   ·have hy:=hz.2 _ (List.getElem_mem hi)
    rw [impl_ExprOk.l0,if_pos (by omega),if_pos (by omega),if_pos (by omega),rdE xs i hi,implNode_is i (by omega) _ hy k (by omega),Option.bind_some,w64_len hi (by omega),ih k (i + 1) (by omega) (by omega),drop_get xs i hi]
    simp only [nodesB]
    cases nodeB i xs[i] <;> simp
   ·rw [impl_ExprOk.l0,if_neg (by omega),List.drop_eq_nil_of_le (by omega),within_is];rfl
 unfold impl_ExprOk.f
 exact go xs.length k 0 (by omega) (by omega)
def names (xs : List S34) : List ByteArray:=xs.filterMap fun x => if x.f0 = 2 then some x.f2 else none
def putS (L : List ByteArray) (s : ByteArray) : List ByteArray:=L.filter (fun x => decide (x.data.toList < s.data.toList)) ++ (s :: L.filter (fun x => decide (s.data.toList < x.data.toList)))
theorem putS_map (L : List ByteArray) (s : ByteArray) : (putS L s).map SSrt.s2l = putL (L.map SSrt.s2l) (SSrt.s2l s):=by
 unfold putS putL
 rw [List.map_append,List.map_cons,List.filter_map,List.filter_map]
 rfl
theorem fold_map (N : List ByteArray) : ∀ L : List ByteArray,(N.foldl putS L).map SSrt.s2l = (N.map SSrt.s2l).foldl putL (L.map SSrt.s2l):=by
 induction N with
 | nil => intro L;rfl
 | cons s N ih => intro L;rw [List.foldl_cons,ih,List.map_cons,List.foldl_cons,putS_map]
theorem map_id2 (L : List ByteArray) : (L.map SSrt.s2l).map SSrt.l2s = L:=by
 rw [List.map_map]
 conv => rhs;rw [← List.map_id L]
 exact List.map_congr_left fun x _ => SSrt.l2s_s2l x
theorem map_id3 (L : List (List UInt8)) : (L.map SSrt.l2s).map SSrt.s2l = L:=by
 rw [List.map_map]
 conv => rhs;rw [← List.map_id L]
 exact List.map_congr_left fun x _ => SSrt.s2l_l2s x
theorem sorted_put (N : List ByteArray) : SSrt.scomp (SSrt.ssort N) = N.foldl putS []:=by
 unfold SSrt.scomp SSrt.ssort
 rw [map_id3,sort_put,← map_id2 (N.foldl putS []),fold_map]
 rfl
theorem w64_q {i n : Nat} (h : i < n) (hn : n ≤ 100000000) : wrap64 ((i : Int) + 1) = ((i + 1 : Nat) : Int):=by rw [w64 (by omega) (by omega)];omega
theorem less_is (x y : ByteArray) : Op.bytesLess x.toList y.toList = decide (x.data.toList < y.data.toList):=by
 rw [ByteArray.toList_eq,ByteArray.toList_eq]
 exact Go.Proofs.bytesLess_eq _ _
theorem rdSt (xs : List ByteArray) (i : Nat) (h : i < xs.length) : rdOf ByteArray.empty xs (i : Int) = xs[i]:=by
 unfold rdOf
 rw [Int.toNat_natCast,List.getD_eq_getElem?_getD,List.getElem?_eq_getElem h,Option.getD_some]
theorem put_l1 (L : List ByteArray) (hL : L.length ≤ 1000) (s : ByteArray) (d : Nat) : ∀ (k i : Nat) (acc : List ByteArray),L.length - i = d → d < k → i ≤ L.length → acc.length ≤ 5000 + i → spec_l03Put.l1 k L s acc (i : Int) = some (acc ++ (L.drop i).filter (fun x => decide (s.data.toList < x.data.toList))):=by
 induction d with
 | zero =>
  intro k i acc hd hk hi ha
  obtain ⟨k,rfl⟩ : ∃ m,k = m + 1:=⟨k - 1,by omega⟩
  rw [spec_l03Put.l1,if_neg (by omega),List.drop_eq_nil_of_le (by omega)]
  simp
 | succ d ih =>
  intro k i acc hd hk hi ha
  obtain ⟨k,rfl⟩ : ∃ m,k = m + 1:=⟨k - 1,by omega⟩
  have hlt : i < L.length:=by omega
  rw [spec_l03Put.l1,if_pos (by omega),if_pos (by omega),rdSt L i hlt,less_is,w64_q hlt (by omega),List.drop_eq_getElem_cons hlt,List.filter_cons]
  by_cases c : decide (s.data.toList < L[i].data.toList) = true
  ·rw [if_pos c,if_pos c,if_pos (by omega),ih k (i + 1) _ (by omega) (by omega) (by omega) (by rw [List.length_append,List.length_singleton];omega),List.append_assoc]
   rfl
  ·rw [if_neg c,if_neg c,ih k (i + 1) _ (by omega) (by omega) (by omega) (by omega)]
theorem put_l0 (L : List ByteArray) (hL : L.length ≤ 1000) (s : ByteArray) (d : Nat) : ∀ (k i : Nat) (acc : List ByteArray),L.length - i = d → d + L.length + 5 < k → i ≤ L.length → acc.length ≤ i → spec_l03Put.l0 k L s acc (i : Int) = some (acc ++ ((L.drop i).filter (fun x => decide (x.data.toList < s.data.toList)) ++ (s :: L.filter (fun x => decide (s.data.toList < x.data.toList))))):=by
 induction d with
 | zero =>
  intro k i acc hd hk hi ha
  obtain ⟨k,rfl⟩ : ∃ m,k = m + 1:=⟨k - 1,by omega⟩
  have h1:=put_l1 L hL s L.length k 0 (acc ++ [s]) (by omega) (by omega) (by omega) (by rw [List.length_append,List.length_singleton];omega)
  rw [spec_l03Put.l0,if_neg (by omega),if_pos (by omega),List.drop_eq_nil_of_le (by omega),List.filter_nil,List.nil_append]
  rw [show ((0 : Nat) : Int) = 0 from rfl,List.drop_zero,List.append_assoc] at h1
  exact h1
 | succ d ih =>
  intro k i acc hd hk hi ha
  obtain ⟨k,rfl⟩ : ∃ m,k = m + 1:=⟨k - 1,by omega⟩
  have hlt : i < L.length:=by omega
  rw [spec_l03Put.l0,if_pos (by omega),if_pos (by omega),rdSt L i hlt,less_is,w64_q hlt (by omega),List.drop_eq_getElem_cons hlt,List.filter_cons]
  by_cases c : decide (L[i].data.toList < s.data.toList) = true
  ·rw [if_pos c,if_pos c,if_pos (by omega),ih k (i + 1) _ (by omega) (by omega) (by omega) (by rw [List.length_append,List.length_singleton];omega),List.append_assoc]
   rfl
  ·rw [if_neg c,if_neg c,ih k (i + 1) _ (by omega) (by omega) (by omega) (by omega)]
theorem put_is (L : List ByteArray) (hL : L.length ≤ 1000) (s : ByteArray) (k : Nat) (hk : 2 * L.length + 5 < k) : spec_l03Put.f k L s = some (putS L s):=by
 have h:=put_l0 L hL s L.length k 0 [] (by omega) (by omega) (by omega) (by simp)
 exact h
theorem two_filters (s : List UInt8) (L : List ByteArray) : (L.filter (fun x : ByteArray => decide (x.data.toList < s))).length + (L.filter (fun x : ByteArray => decide (s < x.data.toList))).length ≤ L.length:=by
 induction L with
 | nil => simp
 | cons x L ih =>
  rw [List.filter_cons,List.filter_cons]
  by_cases c : x.data.toList < s
  ·rw [decide_eq_true c,if_pos rfl,decide_eq_false (lb_asymm c),if_neg (by simp)]
   simp only [List.length_cons];omega
  ·rw [decide_eq_false c,if_neg (by simp)]
   split <;> simp only [List.length_cons] <;> omega
theorem putS_length (L : List ByteArray) (s : ByteArray) : (putS L s).length ≤ L.length + 1:=by
 unfold putS
 have h:=two_filters s.data.toList L
 rw [List.length_append,List.length_cons]
 omega
theorem rdEN (xs : List S34) (i : Nat) (h : i < xs.length) : rd_T34 xs (i : Int) = xs[i]:=by simp [rd_T34,List.getD,h]
theorem names_cons (x : S34) (l : List S34) : names (x :: l) = if x.f0 = 2 then x.f2 :: names l else names l:=by
 unfold names
 rw [List.filterMap_cons]
 by_cases h : x.f0 = 2
 ·rw [if_pos h,if_pos h]
 ·rw [if_neg h,if_neg h]
theorem specFree_l0 (xs : List S34) (hl : xs.length ≤ 20) (d : Nat) : ∀ (k i : Nat) (L : List ByteArray),xs.length - i = d → i ≤ xs.length → L.length ≤ i → d + 1000 ≤ k → spec_FreeOf.l0 k L (i : Int) xs = some ((names (xs.drop i)).foldl putS L):=by
 induction d with
 | zero =>
  intro k i L hd hi hL hk
  obtain ⟨k,rfl⟩ : ∃ m,k = m + 1:=⟨k - 1,by omega⟩
  rw [spec_FreeOf.l0,if_neg (by omega),List.drop_eq_nil_of_le (by omega)]
  rfl
 | succ d ih =>
  intro k i L hd hi hL hk
  obtain ⟨k,rfl⟩ : ∃ m,k = m + 1:=⟨k - 1,by omega⟩
  have hlt : i < xs.length:=by omega
  rw [spec_FreeOf.l0,if_pos (by omega),if_pos (by omega),rdEN xs i hlt,w64_q hlt (by omega),List.drop_eq_getElem_cons hlt,names_cons]
  by_cases c : xs[i].f0 = 2
  ·have:=putS_length L xs[i].f2
   rw [if_pos c,if_pos c,put_is L (by omega) _ k (by omega),Option.bind_some,ih k (i + 1) _ (by omega) (by omega) (by omega) (by omega)]
   rfl
  ·rw [if_neg c,if_neg c,ih k (i + 1) _ (by omega) (by omega) (by omega) (by omega)]
theorem implFree_l0 (xs : List S34) (hl : xs.length ≤ 20) (d : Nat) : ∀ (k i : Nat) (L : List ByteArray),xs.length - i = d → i ≤ xs.length → L.length ≤ i → d + 10 ≤ k → impl_FreeOf.l0 k L xs (xs.length : Int) (i : Int) = some (SSrt.scomp (SSrt.ssort (L ++ names (xs.drop i)))):=by
 induction d with
 | zero =>
  intro k i L hd hi hL hk
  obtain ⟨k,rfl⟩ : ∃ m,k = m + 1:=⟨k - 1,by omega⟩
  rw [impl_FreeOf.l0,if_neg (by omega),List.drop_eq_nil_of_le (by omega)]
  unfold slices_Sort_string_string.f slices_Compact_string_string.f
  rw [if_pos (by omega),Option.bind_some,if_pos (by rw [SSrt.ssort_length];omega),Option.bind_some]
  have : names [] = []:=rfl
  rw [this,List.append_nil]
 | succ d ih =>
  intro k i L hd hi hL hk
  obtain ⟨k,rfl⟩ : ∃ m,k = m + 1:=⟨k - 1,by omega⟩
  have hlt : i < xs.length:=by omega
  rw [impl_FreeOf.l0,if_pos (by omega),if_pos (by omega),if_pos (by omega),rdEN xs i hlt,w64_q hlt (by omega),List.drop_eq_getElem_cons hlt,names_cons]
  by_cases c : xs[i].f0 = 2
  ·rw [if_pos c,if_pos c,if_pos (by omega),ih k (i + 1) _ (by omega) (by omega) (by rw [List.length_append,List.length_singleton];omega) (by omega),List.append_assoc]
   rfl
  ·rw [if_neg c,if_neg c,ih k (i + 1) _ (by omega) (by omega) (by omega) (by omega)]
def freeR (xs : List S34) : List ByteArray:=if exprOkB xs = true then (names xs).foldl putS [] else []
theorem okB_len {xs : List S34} (h : exprOkB xs = true) : xs.length ≤ 20:=by
 unfold exprOkB at h
 rw [Bool.and_eq_true] at h
 have:=of_decide_eq_true h.2
 omega
theorem specFree_ev (xs : List S34) (hz : smallX xs) : Ev (fun k => spec_FreeOf.f k xs) (freeR xs):=by
 unfold spec_FreeOf.f freeR
 refine Ev.congr (fun k => Option.bind_some _ _) (Ev.bind (specExprOk_ev xs hz) ?_)
 by_cases h : exprOkB xs = true
 ·rw [if_pos h]
  refine Ev.congr (fun k => if_pos h) (Ev.from 2000 fun k hk => ?_)
  exact specFree_l0 xs (okB_len h) xs.length k 0 [] (by omega) (by omega) (by simp) (by have:=okB_len h;omega)
 ·rw [if_neg h]
  exact Ev.congr (f:=fun _ => some []) (fun k => if_neg h) (Ev.now _)
theorem implFree_ev (xs : List S34) (hz : smallX xs) : Ev (fun k => impl_FreeOf.f k xs) (freeR xs):=by
 unfold impl_FreeOf.f freeR
 refine Ev.congr (fun k => Option.bind_some _ _) (Ev.bind (Ev.from (xs.length + 1048578) (implExprOk_is _ hz)) ?_)
 by_cases h : exprOkB xs = true
 ·rw [if_pos h,← sorted_put]
  refine Ev.congr (fun k => if_pos h) (Ev.from 2000 fun k hk => ?_)
  exact implFree_l0 xs (okB_len h) xs.length k 0 [] (by omega) (by omega) (by simp) (by have:=okB_len h;omega)
 ·rw [if_neg h]
  exact Ev.congr (f:=fun _ => some []) (fun k => if_neg h) (Ev.now _)
theorem implEnvGet_l0 (xs : List S87) (s : ByteArray) (hl : xs.length ≤ 9223372036854775807) (d : Nat) : ∀ (k i : Nat),xs.length - i ≤ d → d < k → impl_EnvGet.l0 k s xs (xs.length : Int) (i : Int) = some (envGetL s (xs.drop i)):=by
 induction d with
 | zero =>
  intro k i hd hk
  obtain ⟨k,rfl⟩ : ∃ m,k = m + 1:=⟨k - 1,by omega⟩
  rw [impl_EnvGet.l0,if_neg (by omega),List.drop_eq_nil_of_le (by omega)];rfl
 | succ d ih =>
  intro k i hd hk
  obtain ⟨k,rfl⟩ : ∃ m,k = m + 1:=⟨k - 1,by omega⟩
  by_cases hi : i < xs.length
  ·rw [impl_EnvGet.l0,if_pos (by omega),if_pos (by omega),if_pos (by omega),rdI' xs i hi,w64_len hi hl,ih k (i + 1) (by omega) (by omega),drop_get xs i hi]
   simp only [envGetL]
   by_cases h : xs[i].f0 = s
   ·rw [if_pos (toList_eq.2 h),if_pos h]
   ·rw [if_neg (fun e => h (toList_eq.1 e)),if_neg h]
  ·rw [impl_EnvGet.l0,if_neg (by omega),List.drop_eq_nil_of_le (by omega)];rfl
theorem implEnvGet_is (xs : List S87) (s : ByteArray) (hl : xs.length ≤ 9223372036854775807) (k : Nat) (hk : xs.length < k) : impl_EnvGet.f k xs s = some (envGetL s xs):=by
 unfold impl_EnvGet.f
 exact implEnvGet_l0 xs s hl xs.length k 0 (by omega) hk
theorem isNum_is (n : Int) : impl_isNum.f n = some (decide (-9999 ≤ n ∧ n ≤ 9999)):=by
 unfold impl_isNum.f
 rw [within_is];rfl
theorem implReached_l1 (xs : List S34) (hl : xs.length ≤ 20) (i : Nat) (hi : i < xs.length) (ks : List Int) (hr : ∀ c ∈ ks,0 ≤ c ∧ c < (i : Int)) (hkl : ks.length ≤ 2) (r : Nat) : ∀ (k j : Nat) (m : List Bool),ks.length - j = r → j ≤ ks.length → m.length = xs.length →
  impl_reachedNodes.l1 (k + r + 1) m (i : Int) ks (ks.length : Int) (j : Int) xs = impl_reachedNodes.l0 k (if rdB m (i : Int) then markKids m (ks.drop j) else m) (wrap64 ((i : Int) - 1)) xs:=by
 induction r with
 | zero =>
  intro k j m hd hj hm
  rw [impl_reachedNodes.l1,if_neg (by omega),List.drop_eq_nil_of_le (by omega)]
  show _ = impl_reachedNodes.l0 k (if rdB m (i : Int) then m else m) _ _
  rw [ite_self]
 | succ r ih =>
  intro k j m hd hj hm
  have hj2 : j < ks.length:=by omega
  have hc:=hr ks[j] (List.getElem_mem hj2)
  obtain ⟨c,hcn⟩:=Int.eq_ofNat_of_zero_le hc.1
  have hcl : c < m.length:=by omega
  rw [show k + (r + 1) + 1 = (k + r + 1) + 1 from by omega,impl_reachedNodes.l1,if_pos (by omega),if_pos (by omega),if_pos (by omega),rdInt ks j hj2,if_pos hc.1,if_pos (by omega),w64_len hj2 (by omega),drop_get ks j hj2]
  have set_self : rdB m (c : Int) = rdB m (i : Int) → m.set c (rdB m (i : Int)) = m:=by
   intro e
   rw [← e,rdB_at m c hcl]
   exact List.set_getElem_self hcl
  have hmk : markKids m (ks[j] :: ks.drop (j + 1)) = markKids (m.set c true) (ks.drop (j + 1)):=by show markKids (m.set (ks[j]).toNat true) _ = _;rw [show (ks[j]).toNat = c from by omega]
  have hset : ∀ v : Bool,rdB (m.set c v) (i : Int) = rdB m (i : Int):=fun v => rdB_set_ne _ _ _ _ (by omega)
  rw [show (ks[j]).toNat = c from by omega]
  by_cases hb : rdOf false m ks[j] = true
  ·rw [if_pos hb,ih k (j + 1) _ (by omega) (by omega) (by rw [List.length_set];exact hm),hset,hmk]
   by_cases hbi : rdB m (i : Int) = true
   ·rw [if_pos hbi,if_pos hbi]
   ·rw [if_neg hbi,if_neg hbi]
    have hb2 : rdB m (c : Int) = true:=by rw [← hcn];exact hb
    have : m.set c true = m:=by
     rw [rdB_at m c hcl] at hb2
     rw [← hb2]
     exact List.set_getElem_self hcl
    rw [this]
  ·rw [if_neg hb,if_pos (by omega),if_pos (by omega),ih k (j + 1) _ (by omega) (by omega) (by rw [List.length_set];exact hm),hset,hmk]
   by_cases hbi : rdB m (i : Int) = true
   ·rw [if_pos hbi,if_pos hbi,show rdOf false m (i : Int) = true from hbi]
   ·rw [if_neg hbi,if_neg hbi,show rdOf false m (i : Int) = false from (by have h9 : rdB m (i : Int) = false:=(by simpa using hbi);exact h9)]
    have hb2 : rdB m (c : Int) = false:=by rw [← hcn];simpa [rdB] using hb
    have : m.set c false = m:=by
     rw [rdB_at m c hcl] at hb2
     rw [← hb2]
     exact List.set_getElem_self hcl
    rw [this]
theorem implReached_l0 (xs : List S34) (ho : exprOkB xs = true) (n : Nat) : ∀ (m : List Bool),n ≤ xs.length → m.length = xs.length → Ev (fun k => impl_reachedNodes.l0 k m ((n : Int) - 1) xs) (marksGo xs n m):=by
 have hp:=expr_pos ho
 induction n with
 | zero =>
  intro m _ hm
  refine Ev.shift 1 (f:=fun _ => some m) (fun k => ?_) (Ev.now _)
  rw [impl_reachedNodes.l0,if_neg (by omega)]
 | succ n ih =>
  intro m hn hm
  have hi : n < xs.length:=by omega
  have hf:=node_facts ho n hi
  have hkl : xs[n].f3.length ≤ 2:=by have:=hf.2.1;unfold kidsOf at this;split at this <;> (try split at this) <;> omega
  have e:=ih (markStep xs m n) (by omega) (by rw [markStep_length];exact hm)
  have ew : wrap64 ((n : Int) - 1) = (n : Int) - 1:=w64 (by omega) (by omega)
  have hs : markStep xs m n = (if rdB m (n : Int) then markKids m xs[n].f3 else m):=by unfold markStep;simp [List.getD,List.getElem?_eq_getElem hi]
  show Ev _ (marksGo xs n (markStep xs m n))
  refine Ev.shift (xs[n].f3.length + 2) (fun k => ?_) e
  have l1:=implReached_l1 xs hp.2 n hi xs[n].f3 hf.2.2 hkl xs[n].f3.length k 0 m (by omega) (by omega) hm
  rw [List.drop_zero,ew,← hs] at l1
  rw [show k + (xs[n].f3.length + 2) = (k + xs[n].f3.length + 1) + 1 from by omega,impl_reachedNodes.l0,if_pos (by omega),show ((n + 1 : Nat) : Int) - 1 = (n : Int) from by omega,if_pos (by omega),if_pos (by omega),rdE xs n hi]
  exact l1
theorem implReached_ev (xs : List S34) (ho : exprOkB xs = true) : Ev (fun k => impl_reachedNodes.f k xs) (marksR xs):=by
 have hp:=expr_pos ho
 have e:=implReached_l0 xs ho xs.length ((List.replicate xs.length false).set (xs.length - 1) true) (by omega) (by simp)
 refine Ev.congr (fun k => ?_) e
 unfold impl_reachedNodes.f
 rw [if_pos (by omega),if_pos (by omega),Option.bind_some,show ((xs.length : Int)).toNat = xs.length from by omega,w64 (by omega) (by omega),if_pos (by omega),if_pos (by rw [List.length_replicate];omega),show ((xs.length : Int) - 1).toNat = xs.length - 1 from by omega]
theorem implFlag_is (b : Bool) : impl_flag.f b = some (flagR b):=by unfold impl_flag.f flagR;split <;> rfl
theorem implReckon_is (op a b : Int) : impl_reckon.f op a b = some (reckonR op a b):=by
 unfold impl_reckon.f reckonR
 simp only [implFlag_is,Option.bind_some]
 by_cases h4 : op = 4
 ·simp [h4]
 by_cases h5 : op = 5
 ·simp [h5]
 by_cases h6 : op = 6
 ·simp [h6]
 by_cases h8 : op = 8
 ·simp [h8]
 by_cases h9 : op = 9
 ·simp [h9]
 by_cases h10 : op = 10
 ·by_cases ha : a = 0
  ·simp [h10,ha]
  ·have h1 : (a != 0) = true:=bne_iff_ne.2 ha
   simp [h10,ha,h1]
 by_cases h11 : op = 11
 ·simp [h11]
 by_cases hb : b = 0
 ·simp [h4,h5,h6,h8,h9,h10,h11,hb]
 ·simp [h4,h5,h6,h8,h9,h10,h11,hb]
theorem implNodeVal_is (xs : List S34) (ho : exprOkB xs = true) (i : Nat) (hi : i < xs.length) (env : List S87) (hel : env.length ≤ 1048576) (here : Int) (nums : List Int) (hn : nums.length = xs.length) (k : Nat) (hk : env.length < k) :
  impl_evalNode.f k xs[i].f0 xs[i].f1 xs[i].f2 xs[i].f3 nums env here = some (nodeVal env here nums xs[i]):=by
 have hf:=node_facts ho i hi
 unfold impl_evalNode.f nodeVal
 by_cases h1 : xs[i].f0 = 1
 ·rw [if_pos h1,if_pos h1]
 by_cases h2 : xs[i].f0 = 2
 ·rw [if_neg h1,if_neg h1,if_pos h2,if_pos h2,implEnvGet_is env _ (by omega) k hk];rfl
 by_cases h3 : xs[i].f0 = 3
 ·rw [if_neg h1,if_neg h1,if_neg h2,if_neg h2,if_pos h3,if_pos h3]
 have hk1 : 1 ≤ (xs[i].f3.length : Int) ∧ (xs[i].f3.length : Int) ≤ 2:=by rw [hf.2.1];unfold kidsOf;rw [if_neg (by omega)];split <;> omega
 have hc:=hf.2.2 _ (rd_in xs[i].f3 0 (by omega) (by omega))
 have hc1:=hf.2.2 _ (rd_in xs[i].f3 ((xs[i].f3.length : Int) - 1) (by omega) (by omega))
 rw [if_neg h1,if_neg h1,if_neg h2,if_neg h2,if_neg h3,if_neg h3,if_pos (by omega),if_pos hc.1,if_pos (by omega),w64 (by omega) (by omega),if_pos (by omega),if_pos (by omega),if_pos hc1.1,if_pos (by omega),implReckon_is]
 rfl
theorem implEval_l0 (xs : List S34) (ho : exprOkB xs = true) (env : List S87) (hel : env.length ≤ 1048576) (here : Int) (m : List Bool) (hm : m.length = xs.length) (d : Nat) : ∀ (k i : Nat) (nums : List Int),xs.length - i = d → i ≤ xs.length → nums.length = xs.length → env.length + d + 1 < k →
  impl_EvalExpr.l0 k env here nums m (m.length : Int) (i : Int) xs = some (evalGo env here m i nums (xs.drop i)):=by
 have hp:=expr_pos ho
 induction d with
 | zero =>
  intro k i nums hd hi hn hk
  obtain ⟨k,rfl⟩ : ∃ m,k = m + 1:=⟨k - 1,by omega⟩
  rw [impl_EvalExpr.l0,if_neg (by omega),w64 (by omega) (by omega),if_pos (by omega),if_pos (by omega),List.drop_eq_nil_of_le (by omega)];rfl
 | succ d ih =>
  intro k i nums hd hi hn hk
  obtain ⟨k,rfl⟩ : ∃ m,k = m + 1:=⟨k - 1,by omega⟩
  have hi2 : i < xs.length:=by omega
  rw [drop_get xs i hi2]
  show _ = some (if rdB m (i : Int) then (if (nodeVal env here nums xs[i]).2 && numB (nodeVal env here nums xs[i]).1 then evalGo env here m (i + 1) (nums.set i (nodeVal env here nums xs[i]).1) (xs.drop (i + 1)) else (0,false)) else evalGo env here m (i + 1) nums (xs.drop (i + 1)))
  rw [impl_EvalExpr.l0,if_pos (by omega),if_pos (by omega),if_pos (by omega)]
  by_cases hb : rdB m (i : Int) = true
  ·have hb2 : rdOf false m (i : Int) = true:=hb
   rw [if_pos hb,if_pos hb2,if_pos (by omega),rdE xs i hi2,implNodeVal_is xs ho i hi2 env hel here nums hn k (by omega),Option.bind_some]
   by_cases hg : (nodeVal env here nums xs[i]).2 = true
   ·rw [if_pos hg,isNum_is,Option.bind_some,hg,Bool.true_and]
    by_cases hv : numB (nodeVal env here nums xs[i]).1 = true
    ·have hv2 : decide (-9999 ≤ (nodeVal env here nums xs[i]).1 ∧ (nodeVal env here nums xs[i]).1 ≤ 9999) = true:=hv
     rw [if_pos hv,if_pos hv2,if_pos (by omega),w64_len hi2 (by omega),show ((i : Int)).toNat = i from by omega]
     exact ih k (i + 1) _ (by omega) (by omega) (by rw [List.length_set];exact hn) (by omega)
    ·have hv2 : ¬ decide (-9999 ≤ (nodeVal env here nums xs[i]).1 ∧ (nodeVal env here nums xs[i]).1 ≤ 9999) = true:=hv
     rw [if_neg hv,if_neg hv2]
   ·rw [if_neg hg,show (nodeVal env here nums xs[i]).2 = false from by simpa using hg,Bool.false_and,if_neg (by simp)]
  ·have hb2 : ¬ rdOf false m (i : Int) = true:=hb
   rw [if_neg hb,if_neg hb2,w64_len hi2 (by omega)]
   exact ih k (i + 1) nums (by omega) (by omega) hn (by omega)
theorem implEvalExpr_ev (xs : List S34) (hz : smallX xs) (env : List S87) (hel : env.length ≤ 1048576) (here : Int) : Ev (fun k => impl_EvalExpr.f k xs env here) (evalR xs env here):=by
 unfold impl_EvalExpr.f evalR
 refine Ev.bind (Ev.from (xs.length + 1048578) (implExprOk_is xs hz)) ?_
 by_cases ho : exprOkB xs = true
 ·have hp:=expr_pos ho
  rw [if_pos ho]
  refine Ev.congr (f:=fun k => (impl_reachedNodes.f k xs).bind fun t => impl_EvalExpr.l0 k env here (List.replicate xs.length 0) t (t.length : Int) 0 xs) (fun k => ?_) (Ev.bind (implReached_ev xs ho) ?_)
  ·rw [if_pos ho,if_pos (by omega),if_pos (by omega),show ((xs.length : Int)).toNat = xs.length from by omega]
  ·exact Ev.from (env.length + xs.length + 1) (fun k hk => implEval_l0 xs ho env hel here (marksR xs) (marksR_length xs) xs.length k 0 _ (by omega) (by omega) (by simp) hk)
 ·rw [if_neg ho]
  exact Ev.congr (f:=fun _ => some (0,false)) (fun k => if_neg ho) (Ev.now _)
theorem lawsHas_l0 (ns : List ByteArray) (v : ByteArray) (hl : ns.length ≤ 9223372036854775807) (d : Nat) : ∀ (k i : Nat),ns.length - i ≤ d → d < k → laws_has.l0 k ns v (i : Int) = some (impl_EnvOnly.has (ns.drop i) v):=by
 induction d with
 | zero =>
  intro k i hd hk
  obtain ⟨k,rfl⟩ : ∃ m,k = m + 1:=⟨k - 1,by omega⟩
  rw [laws_has.l0,if_neg (by omega),List.drop_eq_nil_of_le (by omega)];rfl
 | succ d ih =>
  intro k i hd hk
  obtain ⟨k,rfl⟩ : ∃ m,k = m + 1:=⟨k - 1,by omega⟩
  by_cases hi : i < ns.length
  ·rw [laws_has.l0,if_pos (by omega),if_pos (by omega),rdStr ns i hi,w64_len hi hl,ih k (i + 1) (by omega) (by omega),drop_get ns i hi]
   unfold impl_EnvOnly.has
   rw [List.any_cons]
   by_cases h : ns[i].toList = v.toList
   ·rw [if_pos h,h];simp
   ·rw [if_neg h,show (v.toList == ns[i].toList) = false from by simpa using fun e => h e.symm,Bool.false_or]
  ·rw [laws_has.l0,if_neg (by omega),List.drop_eq_nil_of_le (by omega)];rfl
theorem lawsHas_is (ns : List ByteArray) (v : ByteArray) (hl : ns.length ≤ 9223372036854775807) (k : Nat) (hk : ns.length < k) : laws_has.f k ns v = some (impl_EnvOnly.has ns v):=by
 unfold laws_has.f
 exact lawsHas_l0 ns v hl ns.length k 0 (by omega) hk
theorem free_has {xs : List S34} (ho : exprOkB xs = true) (y : S34) (hy : y ∈ xs) (h2 : y.f0 = 2) : impl_EnvOnly.has (freeR xs) y.f2 = true:=by
 have hn : y.f2 ∈ names xs:=List.mem_filterMap.2 ⟨y,hy,if_pos h2⟩
 have h1 : SSrt.s2l y.f2 ∈ ((names xs).map SSrt.s2l).foldl putL []:=((foldPut _ [] List.Pairwise.nil).2 _).2 (.inr (List.mem_map.2 ⟨_,hn,rfl⟩))
 have h3:=fold_map (names xs) []
 rw [List.map_nil] at h3
 rw [← h3] at h1
 obtain ⟨t,ht,he⟩:=List.mem_map.1 h1
 unfold impl_EnvOnly.has
 rw [List.any_eq_true]
 refine ⟨t,by unfold freeR;rw [if_pos ho];exact ht,?_⟩
 rw [ByteArray.toList_eq,ByteArray.toList_eq,beq_iff_eq]
 exact he.symm
theorem free_len (xs : List S34) : (freeR xs).length ≤ 20:=by
 unfold freeR
 split
 ·rename_i h
  have hl:=okB_len h
  have go : ∀ (N : List ByteArray) (L : List ByteArray),(N.foldl putS L).length ≤ L.length + N.length:=by
   intro N
   induction N with
   | nil => intro L;exact Nat.le_refl _
   | cons s N ih =>
    intro L
    have h1:=ih (putS L s)
    have h2:=putS_length L s
    rw [List.foldl_cons,List.length_cons]
    omega
  have h1:=go (names xs) []
  have h2 : (names xs).length ≤ xs.length:=List.length_filterMap_le _ _
  simp only [List.length_nil] at h1
  omega
 ·simp
theorem drawFreeOf_ev (b : List Int) (hb : b.length ≤ 140737488351232) : ∃ xs,Ev (fun k => spec_DrawFreeOf.f k b) xs ∧ Small7 xs:=by
 obtain ⟨h,e⟩:=l01New_is b hb 4001 (by omega)
 obtain ⟨xs,i',h',e2,hs,_⟩:=l04Any_is b 0 h ⟨hb,by omega,by omega⟩
 refine ⟨xs,Ev.of (k:=4001) (spec_DrawFreeOf.mono b) ?_,hs⟩
 unfold spec_DrawFreeOf.f
 rw [e,Option.bind_some]
 show (spec_l04Any.f b 0 h).bind _ = _
 rw [e2]
 rfl
theorem fnExprFree_l0 (b : List Int) (hb : b.length ≤ 140737488351232) (xs : List S34) (ho : exprOkB xs = true) (hs : Small7 xs) (a : Int) (ok : Bool) (d : Nat) : ∀ i : Nat,xs.length - i = d → i ≤ xs.length →
  Ev (fun k => laws_FnExprFree.l0 k b (freeR xs) a ok a ok (i : Int) xs) true:=by
 have hfl:=free_len xs
 induction d with
 | zero =>
  intro i hd hi
  obtain ⟨ys,eD,hy⟩:=drawFreeOf_ev b hb
  have hyl:=free_len ys
  refine Ev.shift 1 (fun k => by rw [laws_FnExprFree.l0,if_neg (by omega)]) (Ev.bind eD ?_)
  refine Ev.congr (fun k => by rw [show (ok == ok) = true from by cases ok <;> rfl,if_pos rfl,if_pos rfl]) (Ev.bind (implFree_ev ys hy.x) (Ev.bind (specFree_ev ys hy.x) (Ev.bind (Ev.from _ fun k hk => sameTexts_self (freeR ys) (by omega) k hk) ?_)))
  refine Ev.congr (fun k => if_pos rfl) (Ev.bind (specFree_ev xs hs.x) (Ev.bind (Ev.from _ fun k hk => sameTexts_self (freeR xs) (by omega) k hk) ?_))
  have eO : Ev (fun k => impl_ExprOk.f k xs) true:=ho ▸ Ev.from (xs.length + 1048578) (implExprOk_is xs hs.x)
  by_cases c : ((freeR xs).length : Int) > 0
  ·exact Ev.congr (fun k => by rw [if_pos rfl,if_pos c]) (Ev.bind eO (Ev.now _))
  ·refine Ev.congr (fun k => by rw [if_pos rfl,if_neg c]) (Ev.bind (specFree_ev xs hs.x) ?_)
   exact Ev.congr (fun k => if_pos (by omega)) (Ev.bind eO (Ev.now _))
 | succ d ih =>
  intro i hd hi
  have hlt : i < xs.length:=by omega
  have e:=ih (i + 1) (by omega) (by omega)
  by_cases c : xs[i].f0 = 2
  ·refine Ev.shift 1 (f:=fun k => (laws_has.f k (freeR xs) xs[i].f2).bind fun t => if t = true then laws_FnExprFree.l0 k b (freeR xs) a ok a ok ((i + 1 : Nat) : Int) xs else none) (fun k => ?_) (Ev.bind (Ev.from _ fun k hk => lawsHas_is (freeR xs) xs[i].f2 (by omega) k hk) ?_)
   ·rw [laws_FnExprFree.l0,if_pos (by omega),if_pos (by omega),rdE xs i hlt,if_pos c,w64_len hlt (by have:=hs.1;omega)]
   ·rw [free_has ho xs[i] (List.getElem_mem hlt) c]
    exact Ev.congr (fun k => if_pos rfl) e
  ·refine Ev.shift 1 (fun k => ?_) e
   rw [laws_FnExprFree.l0,if_pos (by omega),if_pos (by omega),rdE xs i hlt,if_neg c,w64_len hlt (by have:=hs.1;omega)]
theorem FnExprFree : laws_FnExprFree.Pure:=by
 intro l hl hsz hw
 have hb : l.length ≤ 140737488351232:=by omega
 refine Ev.rounds (r:=true) ?_
 unfold laws_FnExprFree.f laws_big.f
 by_cases hbig : decide ((l.length : Int) > 1048576) = true
 ·exact Ev.congr (f:=fun _ => some true) (fun k => by rw [Option.bind_some,if_pos hbig]) (Ev.now _)
 obtain ⟨xs,eX,ho,hl7⟩:=drawExpr_ev l hb
 obtain ⟨vs,e2,hv⟩:=drawEnv_is l hb 8000011 (by omega)
 have eV : Ev (fun k => spec_DrawEnv.f k l) vs:=Ev.of (spec_DrawEnv.mono l) e2
 have hs:=okB_small ho hl7
 have hvl:=hv.len
 have hol:=only_length (freeR xs) vs
 have hfl:=free_len xs
 have eO : Ev (fun k => spec_EnvOnly.f k vs (freeR xs)) (only (freeR xs) vs):=Ev.from 3000000 fun k hk => specEnvOnly_is vs (freeR xs) (by omega) (by omega) k hk
 refine Ev.congr (fun k => by rw [Option.bind_some,if_neg hbig]) (Ev.bind eX (Ev.bind eV (Ev.bind (implFree_ev xs hs.x) (Ev.bind (implEvalExpr_ev xs hs.x vs (by omega) 3) (Ev.bind eO (Ev.bind (implEvalExpr_ev xs hs.x (only (freeR xs) vs) (by omega) 3) ?_))))))
 rw [evalR_only (freeR xs) xs vs 3 (fun y hy h2 => free_has ho y hy h2)]
 exact fnExprFree_l0 l hb xs ho hs _ _ xs.length 0 (by omega) (by omega)
end Go.Proofs.Ytnmhggdaccbbfaa.Pure
