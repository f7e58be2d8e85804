/- FnSetsMet without Go: joined with itself, and met with itself, a drawn set has the same bytes; with all it is all, or itself. -/
import Derived.Test.YtbkncnlehlldeaaMFnSetsMetx7
import Derived.Lib.Bytealg
set_option linter.unusedVariables false
set_option linter.unusedSimpArgs false
set_option maxHeartbeats 400000
namespace Go.Proofs.Ytbkncnlehlldeaa.Pure
open Go.RowKit Go.Proofs.Ytbkncnlehlldeaa.MFnSetsMet Go.Proofs.YtbkncnlehlldeaaW.PrintWords Go.Proofs.YtbkncnlehlldeaaW.PrintLast
theorem om_ {p:Prop} (h:p:=by omega):p:=h
theorem lo_ {p:Prop} (h:p:=by simp only [List.length_append,List.length_cons,List.length_nil];omega):p:=h
theorem w64 {n : Int} (h : -9223372036854775808 ≤ n) (h' : n ≤ 9223372036854775807) : wrap64 n = n:=by unfold wrap64;omega
def bs (s : ByteArray) : List Int:=s.data.toList.map fun b => (b.toNat : Int)
theorem bs_length (s : ByteArray) : (bs s).length = s.size:=by simp [bs]
theorem bs_get (s : ByteArray) (i : Nat) (h : i < s.size) : (bs s)[i]? = some (bt s i):=by
 have h2 : i < s.data.toList.length:=by simpa using h
 simp only [bs,List.getElem?_map,List.getElem?_eq_getElem h2,Option.map_some]
 unfold bt
 rw [dif_pos (by simpa using h)]
 rfl
theorem bs_drop (s : ByteArray) (i : Nat) (h : i < s.size) : (bs s).drop i = bt s i :: (bs s).drop (i + 1):=by
 have h2 : i < (bs s).length:=by rw [bs_length];exact h
 rw [List.drop_eq_getElem_cons h2]
 congr 1
 have:=bs_get s i h
 rw [List.getElem?_eq_getElem h2] at this
 exact Option.some.inj this
theorem bs_drop_nil (s : ByteArray) (i : Nat) (h : s.size ≤ i) : (bs s).drop i = []:=List.drop_eq_nil_of_le (by rw [bs_length];exact h)
theorem bs_range {s : ByteArray} {c : Int} (h : c ∈ bs s) : 0 ≤ c ∧ c ≤ 255:=by
 simp only [bs,List.mem_map] at h
 obtain ⟨b,_,rfl⟩:=h
 have:=b.toNat_lt
 omega
theorem bs_inj {s t : ByteArray} (h : bs s = bs t) : s = t:=by
 have hd : s.data.toList = t.data.toList:=by
  refine List.map_inj_right (f:=fun b : UInt8 => (b.toNat : Int)) (fun a b hab => ?_) |>.1 h
  have hab2 : (a.toNat : Int) = b.toNat:=hab
  exact UInt8.toNat_inj.1 om_
 cases s;cases t
 simp only [ByteArray.mk.injEq]
 exact Array.toList_inj.1 hd
theorem bs_str {xs : List Int} (h : ∀ x ∈ xs,0 ≤ x ∧ x ≤ 255) : bs (strOfNums xs) = xs:=by
 unfold bs strOfNums
 simp only [List.map_map]
 conv => rhs;rw [← List.map_id xs]
 refine List.map_congr_left fun x hx => ?_
 have:=h x hx
 simp only [Function.comp,id,UInt8.toNat_ofNat']
 omega
theorem str_size (xs : List Int) : (strOfNums xs).size = xs.length:=by
 show ((xs.map fun n => UInt8.ofNat n.toNat).toArray).size = xs.length
 simp
theorem bs_append (s t : ByteArray) : bs (s ++ t) = bs s ++ bs t:=by
 simp [bs]
theorem bt_str {xs : List Int} (h : ∀ x ∈ xs,0 ≤ x ∧ x ≤ 255) (i : Nat) (hi : i < xs.length) : bt (strOfNums xs) i = rd xs i:=by
 have h1:=bs_get (strOfNums xs) i (by rw [str_size];exact hi)
 rw [bs_str h] at h1
 unfold rd
 rw [List.getD_eq_getElem?_getD,Int.toNat_natCast,h1]
 rfl
theorem tmod_e {n : Int} (h : 0 ≤ n) (m : Int) : Int.tmod n m = n % m:=Int.tmod_eq_emod_of_nonneg h
theorem w64_len {i n : Nat} (h : i < n) (hn : n ≤ 9223372036854775807) : wrap64 ((i : Int) + 1) = ((i + 1 : Nat) : Int):=by
 rw [w64 om_ om_];omega
theorem and255_range (x : Int) : 0 ≤ Go.bits .and .i64 x 255 ∧ Go.bits .and .i64 x 255 ≤ 255:=by
 have h : Go.bits .and .i64 x 255 = IntKind.i64.wrap (((BitVec.ofInt 64 x) &&& (BitVec.ofInt 64 255)).toNat : Int):=rfl
 have h2 : ((BitVec.ofInt 64 x) &&& (BitVec.ofInt 64 255)).toNat ≤ 255:=by
  rw [BitVec.toNat_and,show (BitVec.ofInt 64 255).toNat = 255 from by decide]
  exact Nat.and_le_right
 rw [h,IntKind.wrap_i64]
 omega
theorem l01New_l0 (b : List Int) (hb : b.length ≤ 140737488351232) (d : Nat) : ∀ (k i : Nat) (h : Int),4000 - i ≤ d → d < k → i ≤ 4000 → ∃ h',spec_l01New.l0 k b h (i : Int) = some (b,0,h'):=by
 induction d with
 | zero =>
  intro k i h hd hk hi
  obtain ⟨k,rfl⟩ : ∃ m,k = m + 1:=⟨k - 1,by omega⟩
  rw [spec_l01New.l0]
  by_cases c : (i : Int) < (b.length : Int)
  ·rw [if_pos c,if_neg om_];exact ⟨_,rfl⟩
  ·rw [if_neg c];exact ⟨_,rfl⟩
 | succ d ih =>
  intro k i h hd hk hi
  obtain ⟨k,rfl⟩ : ∃ m,k = m + 1:=⟨k - 1,by omega⟩
  rw [spec_l01New.l0]
  by_cases c : (i : Int) < (b.length : Int)
  ·rw [if_pos c]
   by_cases c2 : (i : Int) < 4000
   ·rw [if_pos c2,if_pos om_,w64_len (n:=4000) om_ om_]
    exact ih k (i + 1) _ om_ om_ om_
   ·rw [if_neg c2];exact ⟨_,rfl⟩
  ·rw [if_neg c];exact ⟨_,rfl⟩
theorem l01New_is (b : List Int) (hb : b.length ≤ 140737488351232) (k : Nat) (hk : 4001 ≤ k) : ∃ h',spec_l01New.f k b = some (b,0,h'):=by
 unfold spec_l01New.f
 exact l01New_l0 b hb 4000 k 0 _ om_ om_ om_
def At (b : List Int) (i : Int) : Prop:=b.length ≤ 140737488351232 ∧ 0 ≤ i ∧ i ≤ (b.length : Int)
theorem l01Byte_is (b : List Int) (i h : Int) (hi : At b i) : ∃ r i' h',spec_l01Byte.f b i h = some (r,i',h') ∧ (0 ≤ r ∧ r ≤ 255) ∧ At b i':=by
 obtain ⟨hb,h0,h1⟩:=hi
 unfold spec_l01Byte.f
 by_cases c : i < (b.length : Int)
 ·rw [if_pos c,if_pos h0]
  refine ⟨_,_,_,rfl,and255_range _,hb,?_⟩
  rw [w64 om_ om_]
  omega
 ·rw [if_neg c]
  exact ⟨_,_,_,rfl,and255_range _,hb,h0,h1⟩
theorem l01Below_is (b : List Int) (i h : Int) (hi : At b i) (n : Int) (hn : 0 < n) : ∃ r i' h',spec_l01Below.f b i h n = some (r,i',h') ∧ (0 ≤ r ∧ r < n) ∧ At b i':=by
 unfold spec_l01Below.f
 rw [if_neg om_]
 by_cases c : n ≤ 256
 ·obtain ⟨r,i',h',e,hr,ha⟩:=l01Byte_is b i h hi
  rw [if_pos c,e,Option.bind_some,if_neg om_]
  refine ⟨_,_,_,rfl,?_,ha⟩
  show 0 ≤ Int.tmod r n ∧ Int.tmod r n < n
  rw [tmod_e hr.1]
  exact ⟨Int.emod_nonneg _ om_,Int.emod_lt_of_pos _ hn⟩
 ·obtain ⟨r1,i1,h1,e1,b1,a1⟩:=l01Byte_is b i h hi
  obtain ⟨r2,i2,h2,e2,b2,a2⟩:=l01Byte_is b i1 h1 a1
  obtain ⟨r3,i3,h3,e3,b3,a3⟩:=l01Byte_is b i2 h2 a2
  obtain ⟨r4,i4,h4,e4,b4,a4⟩:=l01Byte_is b i3 h3 a3
  rw [if_neg c,e1,Option.bind_some,e2,Option.bind_some,e3,Option.bind_some,e4,Option.bind_some,if_neg om_]
  refine ⟨_,_,_,rfl,?_,a4⟩
  show 0 ≤ Int.tmod (wrap64 (wrap64 (wrap64 (wrap64 (r1 * 16777216) + wrap64 (r2 * 65536)) + wrap64 (r3 * 256)) + r4)) n ∧ Int.tmod (wrap64 (wrap64 (wrap64 (wrap64 (r1 * 16777216) + wrap64 (r2 * 65536)) + wrap64 (r3 * 256)) + r4)) n < n
  have hx : 0 ≤ wrap64 (wrap64 (wrap64 (wrap64 (r1 * 16777216) + wrap64 (r2 * 65536)) + wrap64 (r3 * 256)) + r4):=by
   rw [w64 (n:=r1 * 16777216) om_ om_,w64 (n:=r2 * 65536) om_ om_,w64 (n:=r3 * 256) om_ om_,w64 (n:=r1 * 16777216 + r2 * 65536) om_ om_,
    w64 (n:=r1 * 16777216 + r2 * 65536 + r3 * 256) om_ om_,w64 om_ om_]
   omega
  rw [tmod_e hx]
  exact ⟨Int.emod_nonneg _ om_,Int.emod_lt_of_pos _ hn⟩
theorem l01Pick_is (b : List Int) (i h : Int) (hi : At b i) (xs : List ByteArray) (hx : xs ≠ []) : ∃ r i' h',spec_l01Pick.f b i h xs = some (r,i',h') ∧ r ∈ xs ∧ At b i':=by
 have hl : 0 < xs.length:=List.length_pos_iff.2 hx
 obtain ⟨r,i',h',e,hr,ha⟩:=l01Below_is b i h hi (xs.length : Int) om_
 unfold spec_l01Pick.f
 rw [e,Option.bind_some,if_pos hr.1,if_pos hr.2]
 refine ⟨_,_,_,rfl,?_,ha⟩
 show rdOf ByteArray.empty xs r ∈ xs
 unfold rdOf
 rw [List.getD_eq_getElem?_getD,List.getElem?_eq_getElem om_,Option.getD_some]
 exact List.getElem_mem _
theorem within_is (a b c : Int) : impl_within.f a b c = some (decide (b ≤ a ∧ a ≤ c)):=by
 unfold impl_within.f
 by_cases h : a ≥ b
 ·rw [if_pos h];simp [show b ≤ a from h]
 ·rw [if_neg h];simp [show ¬ b ≤ a from h]
theorem l01In_is (a b c : Int) : spec_l01In.f a b c = some (decide (b ≤ a ∧ a ≤ c)):=by
 unfold spec_l01In.f
 by_cases h : a ≥ b
 ·rw [if_pos h];simp [show b ≤ a from h]
 ·rw [if_neg h];simp [show ¬ b ≤ a from h]
def sb (c : Int) : Bool:=decide ((97 ≤ c ∧ c ≤ 122) ∨ (48 ≤ c ∧ c ≤ 57))
theorem l05Byte_is (c : Int) : spec_l05Byte.f c = some (sb c):=by
 unfold spec_l05Byte.f sb
 by_cases h : c ≥ 97
 ·rw [if_pos h]
  by_cases h2 : c ≤ 122
  ·rw [if_pos h2,decide_eq_true (Or.inl ⟨h,h2⟩)]
  ·rw [if_neg h2,if_pos (show c ≥ 48 by omega)]
   congr 1
   exact decide_eq_decide.2 om_
 ·rw [if_neg h]
  by_cases h2 : c ≥ 48
  ·rw [if_pos h2]
   congr 1
   exact decide_eq_decide.2 om_
  ·rw [if_neg h2,decide_eq_false om_]
theorem isSmall_b (c : Int) (h0 : 0 ≤ c) (h1 : c ≤ 255) : impl_isSmall.f c = some (decide (97 ≤ c ∧ c ≤ 122)):=by
 unfold impl_isSmall.f
 rw [w64 om_ om_,within_is];rfl
theorem isFigure_b (c : Int) (h0 : 0 ≤ c) (h1 : c ≤ 255) : impl_isFigure.f c = some (decide (48 ≤ c ∧ c ≤ 57)):=by
 unfold impl_isFigure.f
 rw [w64 om_ om_,within_is];rfl
theorem isSetByte_b (c : Int) (h0 : 0 ≤ c) (h1 : c ≤ 255) : impl_isSetByte.f c = some (sb c):=by
 unfold impl_isSetByte.f
 rw [isSmall_b c h0 h1,Option.bind_some]
 by_cases h : 97 ≤ c ∧ c ≤ 122
 ·rw [if_pos (decide_eq_true h)]
  unfold sb
  rw [decide_eq_true (Or.inl h)]
 ·rw [if_neg (by simpa using h),isFigure_b c h0 h1,Option.bind_some]
  unfold sb
  congr 1
  exact decide_eq_decide.2 om_
theorem str_append (a b : List Int) : strOfNums (a ++ b) = strOfNums a ++ strOfNums b:=by
 have h : (strOfNums (a ++ b)).data.toList = (strOfNums a ++ strOfNums b).data.toList:=by simp [strOfNums]
 revert h
 generalize strOfNums (a ++ b) = x
 generalize strOfNums a ++ strOfNums b = y
 intro h
 cases x;cases y
 simp only [ByteArray.mk.injEq]
 exact Array.toList_inj.1 h
def rws (s : ByteArray) : Nat → Nat → Option (List (Int × Int))
 | 0,_ => none
 | f + 1,i => if i < s.size then
   (if sb (bt s (i : Int)) = true then
    (if i + 2 < s.size ∧ bt s ((i + 1 : Nat) : Int) = 45 then
     (if sb (bt s ((i + 2 : Nat) : Int)) = true ∧ bt s (i : Int) ≤ bt s ((i + 2 : Nat) : Int) ∧ (57 < bt s ((i + 2 : Nat) : Int) ↔ 57 < bt s (i : Int))
      then (rws s f (i + 3)).map ((bt s (i : Int),bt s ((i + 2 : Nat) : Int)) :: ·) else none)
    else (rws s f (i + 1)).map ((bt s (i : Int),bt s (i : Int)) :: ·))
   else none)
  else some []
def encR (rs : List (Int × Int)) : List Int:=rs.flatMap fun p => [p.1,p.2]
theorem encR_cons (p : Int × Int) (rs : List (Int × Int)) : encR (p :: rs) = [p.1,p.2] ++ encR rs:=by simp [encR]
def seg (a b : Int) : List Int:=(List.range (b + 1 - a).toNat).map fun (j : Nat) => a + (j : Int)
theorem seg_nil (a b : Int) (h : b < a) : seg a b = []:=by
 unfold seg
 rw [show (b + 1 - a).toNat = 0 from by omega];rfl
theorem seg_cons (a b : Int) (h : a ≤ b) : seg a b = a :: seg (a + 1) b:=by
 unfold seg
 rw [show (b + 1 - a).toNat = (b + 1 - (a + 1)).toNat + 1 from by omega,List.range_succ_eq_map,List.map_cons,List.map_map]
 congr 1
 ·simp
 ·refine List.map_congr_left fun j hj => ?_
  simp only [Function.comp]
  omega
theorem mem_seg (a b x : Int) : x ∈ seg a b ↔ a ≤ x ∧ x ≤ b:=by
 unfold seg
 rw [List.mem_map]
 constructor
 ·rintro ⟨j,hj,rfl⟩
  rw [List.mem_range] at hj
  omega
 ·intro h
  exact ⟨(x - a).toNat,by rw [List.mem_range];omega,by omega⟩
theorem seg_length (a b : Int) : (seg a b).length = (b + 1 - a).toNat:=by simp [seg]
def expR (rs : List (Int × Int)) : List Int:=rs.flatMap fun p => seg p.1 p.2
theorem expR_cons (p : Int × Int) (rs : List (Int × Int)) : expR (p :: rs) = seg p.1 p.2 ++ expR rs:=by simp [expR]
theorem l05Rows_l0 (s : ByteArray) (hs : s.size ≤ 1048576) (d : Nat) : ∀ (k i : Nat) (acc : List Int),s.size - i ≤ d → 2 * d + 1 ≤ k → i ≤ s.size → acc.length ≤ 2 * i →
  spec_l05Rows.l0 k s (strOfNums acc) (i : Int) = match rws s (d + 1) i with
   | none => some ((⟨#[]⟩ : ByteArray),false)
   | some rs => some (strOfNums (acc ++ encR rs),decide (1 ≤ (s.size : Int) ∧ (s.size : Int) ≤ 12)):=by
 induction d with
 | zero =>
  intro k i acc hd hk hi ha
  obtain ⟨k,rfl⟩ : ∃ k',k = k' + 1:=⟨k - 1,by omega⟩
  rw [spec_l05Rows.l0,if_neg om_,rws,if_neg om_,l01In_is]
  simp [encR]
 | succ d ih =>
  intro k i acc hd hk hi ha
  obtain ⟨k,rfl⟩ : ∃ k',k = k' + 2:=⟨k - 2,by omega⟩
  by_cases h : i < s.size
  ·have hr:=bt_range s (i : Int)
   rw [spec_l05Rows.l0,if_pos om_,if_pos om_,l05Byte_is,Option.bind_some,rws,if_pos h]
   by_cases hb : sb (bt s (i : Int)) = true
   ·rw [if_pos hb,if_pos hb]
    have e2 : wrap64 ((i : Int) + 2) = ((i + 2 : Nat) : Int):=by rw [w64 om_ om_];omega
    have e1 : wrap64 ((i : Int) + 1) = ((i + 1 : Nat) : Int):=by rw [w64 om_ om_];omega
    have e3 : wrap64 ((i : Int) + 3) = ((i + 3 : Nat) : Int):=by rw [w64 om_ om_];omega
    have hj : ∀ x : Bool,x = decide (i + 2 < s.size ∧ bt s ((i + 1 : Nat) : Int) = 45) → spec_l05Rows.j1 (k + 1) s (strOfNums acc) (i : Int) (bt s (i : Int)) ((i + 1 : Nat) : Int) x =
      match (if i + 2 < s.size ∧ bt s ((i + 1 : Nat) : Int) = 45 then
       (if sb (bt s ((i + 2 : Nat) : Int)) = true ∧ bt s (i : Int) ≤ bt s ((i + 2 : Nat) : Int) ∧ (57 < bt s ((i + 2 : Nat) : Int) ↔ 57 < bt s (i : Int))
        then (rws s (d + 1) (i + 3)).map ((bt s (i : Int),bt s ((i + 2 : Nat) : Int)) :: ·) else none)
       else (rws s (d + 1) (i + 1)).map ((bt s (i : Int),bt s (i : Int)) :: ·)) with
      | none => some ((⟨#[]⟩ : ByteArray),false)
      | some rs => some (strOfNums (acc ++ encR rs),decide (1 ≤ (s.size : Int) ∧ (s.size : Int) ≤ 12)):=by
     rintro x rfl
     rw [spec_l05Rows.j1]
     by_cases hm : i + 2 < s.size ∧ bt s ((i + 1 : Nat) : Int) = 45
     ·rw [if_pos (decide_eq_true hm),if_pos hm,e2,if_pos om_,if_pos om_,l05Byte_is,Option.bind_some]
      by_cases hb2 : sb (bt s ((i + 2 : Nat) : Int)) = true
      ·rw [if_pos hb2,if_pos om_,if_pos om_]
       by_cases hlt : bt s ((i + 2 : Nat) : Int) < bt s (i : Int)
       ·rw [if_pos hlt,if_neg om_]
       ·rw [if_neg hlt]
        by_cases hk57 : (57 < bt s ((i + 2 : Nat) : Int) ↔ 57 < bt s (i : Int))
        ·have hne : (decide (bt s ((i + 2 : Nat) : Int) > 57) != decide (bt s (i : Int) > 57)) = false:=by
          have : decide (bt s ((i + 2 : Nat) : Int) > 57) = decide (bt s (i : Int) > 57):=decide_eq_decide.2 hk57
          rw [this];simp
         rw [hne,if_neg (by simp),if_pos ⟨hb2,by omega,hk57⟩,Option.bind_some,if_pos (by rw [str_size,str_size];simp only [List.length_cons,List.length_nil];omega),← str_append,e3,
          ih k (i + 3) _ om_ om_ om_ lo_]
         cases rws s (d + 1) (i + 3) with
         | none => rfl
         | some rs =>
          simp only [Option.map_some,encR_cons,List.append_assoc]
        ·have hne : (decide (bt s ((i + 2 : Nat) : Int) > 57) != decide (bt s (i : Int) > 57)) = true:=by
          rw [bne_iff_ne]
          intro e
          exact hk57 (decide_eq_decide.1 e)
         rw [hne,if_pos rfl,if_neg (fun h => hk57 h.2.2)]
      ·rw [if_neg hb2,if_neg (fun h => hb2 h.1)]
     ·rw [if_neg (by simpa using hm),if_neg hm,if_pos om_,if_pos om_,Option.bind_some,if_pos (by rw [str_size,str_size];simp only [List.length_cons,List.length_nil];omega),← str_append,
       ih k (i + 1) _ om_ om_ om_ lo_]
      cases rws s (d + 1) (i + 1) with
      | none => rfl
      | some rs => simp only [Option.map_some,encR_cons,List.append_assoc]
    rw [e2,e1]
    by_cases h2 : i + 2 < s.size
    ·rw [if_pos om_,if_pos om_,if_pos om_]
     exact hj _ (by simp only [h2,true_and];rfl)
    ·rw [if_neg om_]
     exact hj _ (by simp [h2])
   ·rw [if_neg hb,if_neg hb]
  ·rw [spec_l05Rows.l0,if_neg om_,rws,if_neg om_,l01In_is]
   simp [encR]
def rowsOf (s : ByteArray) : Option (List (Int × Int)):=rws s (s.size + 1) 0
def lenOk (s : ByteArray) : Bool:=decide (1 ≤ (s.size : Int) ∧ (s.size : Int) ≤ 12)
theorem l05Rows_is (s : ByteArray) (hs : s.size ≤ 1048576) (k : Nat) (hk : 2 * s.size + 1 ≤ k) : spec_l05Rows.f k s = match rowsOf s with
   | none => some ((⟨#[]⟩ : ByteArray),false)
   | some rs => some (strOfNums (encR rs),lenOk s):=by
 have h:=l05Rows_l0 s hs s.size k 0 [] om_ hk om_ (by simp)
 simp only [List.nil_append] at h
 exact h
theorem w64_1 (i : Nat) (h : i ≤ 1000000000) : wrap64 ((i : Int) + 1) = ((i + 1 : Nat) : Int):=by rw [w64 om_ om_];omega
theorem w64_2 (i : Nat) (h : i ≤ 1000000000) : wrap64 ((i : Int) + 2) = ((i + 2 : Nat) : Int):=by rw [w64 om_ om_];omega
theorem readSet_l1 (s : ByteArray) (i last : Int) (hl0 : 0 ≤ last) (h255 : last ≤ 255) (m : Nat) : ∀ (k : Nat) (acc : List Int) (x : Int),(last + 1 - x).toNat = m → 0 ≤ x → acc.length + m ≤ 1000000000 →
  impl_readSet.l1 (k + m + 1) s acc i last x = impl_readSet.l0 k s (acc ++ seg x last) i:=by
 induction m with
 | zero =>
  intro k acc x hm hx ha
  rw [impl_readSet.l1,w64 (n:=last) om_ om_,if_neg om_,seg_nil x last om_,List.append_nil]
 | succ m ih =>
  intro k acc x hm hx ha
  have e : impl_readSet.l1 (k + (m + 1) + 1) s acc i last x = impl_readSet.l1 (k + m + 1) s (acc ++ [x]) i last (x + 1):=by
   rw [impl_readSet.l1,w64 (n:=last) om_ om_,if_pos om_,if_pos om_,Int.emod_eq_of_lt hx om_,w64 om_ om_]
   rfl
  rw [e,ih k _ (x + 1) om_ om_ lo_,seg_cons x last om_,List.append_assoc]
  rfl
theorem sb_kind {a b : Int} (ha : sb a = true) (hb : sb b = true) : (decide (97 ≤ a ∧ a ≤ 122) != decide (97 ≤ b ∧ b ≤ 122)) = !decide (57 < b ↔ 57 < a):=by
 unfold sb at ha hb
 have ha:=of_decide_eq_true ha
 have hb:=of_decide_eq_true hb
 by_cases h1 : 97 ≤ a ∧ a ≤ 122 <;> by_cases h2 : 97 ≤ b ∧ b ≤ 122
 ·rw [decide_eq_true h1,decide_eq_true h2,decide_eq_true (show (57 < b ↔ 57 < a) by omega)];rfl
 ·rw [decide_eq_true h1,decide_eq_false h2,decide_eq_false (show ¬ (57 < b ↔ 57 < a) by omega)];rfl
 ·rw [decide_eq_false h1,decide_eq_true h2,decide_eq_false (show ¬ (57 < b ↔ 57 < a) by omega)];rfl
 ·rw [decide_eq_false h1,decide_eq_false h2,decide_eq_true (show (57 < b ↔ 57 < a) by omega)];rfl
theorem readSet_j2 (s : ByteArray) (k : Nat) (acc : List Int) (i first last : Int) (hf0 : 0 ≤ first) (hf : first ≤ 255) (hl0 : 0 ≤ last) (hl : last ≤ 255) (ha : acc.length ≤ 900000000) :
  impl_readSet.j2 (k + 30) s acc i first last = if sb first = true ∧ sb last = true ∧ first ≤ last ∧ (57 < last ↔ 57 < first) then impl_readSet.l0 (k + 27 - (last + 1 - first).toNat) s (acc ++ seg first last) i else some (([] : List Int),false):=by
 have hj3 : ∀ x : Bool,impl_readSet.j3 (k + 29) s acc i first last x = if x = true then some (([] : List Int),false) else impl_readSet.l1 (k + 28) s acc i last first:=fun x => by
  rw [impl_readSet.j3,w64 (n:=first) om_ om_]
 rw [impl_readSet.j2,isSetByte_b first hf0 hf,Option.bind_some]
 by_cases h1 : sb first = true
 ·rw [if_pos h1,isSetByte_b last hl0 hl,Option.bind_some]
  by_cases h2 : sb last = true
  ·rw [if_pos h2,isSmall_b first hf0 hf,isSmall_b last hl0 hl,Option.bind_some,Option.bind_some,sb_kind h1 h2,hj3,hj3]
   by_cases h3 : (57 < last ↔ 57 < first)
   ·rw [decide_eq_true h3,if_neg (by simp)]
    by_cases h4 : last < first
    ·rw [if_pos (decide_eq_true h4),if_neg (fun h => by omega)]
    ·rw [if_neg (by simpa using h4),if_pos ⟨h1,h2,by omega,h3⟩]
     have hm : (last + 1 - first).toNat ≤ 26:=by
      unfold sb at h1 h2
      have h1:=of_decide_eq_true h1
      have h2:=of_decide_eq_true h2
      omega
     have e:=readSet_l1 s i last hl0 hl (last + 1 - first).toNat (k + 27 - (last + 1 - first).toNat) acc first rfl hf0 om_
     rw [show k + 27 - (last + 1 - first).toNat + (last + 1 - first).toNat + 1 = k + 28 from by omega] at e
     exact e
   ·rw [decide_eq_false h3,if_pos (by simp),if_pos rfl,if_neg (fun h => h3 h.2.2.2)]
  ·rw [if_neg h2,hj3,if_pos rfl,if_neg (fun h => h2 h.2.1)]
 ·rw [if_neg h1,hj3,if_pos rfl,if_neg (fun h => h1 h.1)]
theorem readSet_l0 (s : ByteArray) (hs : s.size ≤ 1048576) (d : Nat) : ∀ (k i : Nat) (acc : List Int),s.size - i ≤ d → 40 * d + 40 ≤ k → i ≤ s.size → acc.length ≤ 26 * i →
  impl_readSet.l0 k s acc (i : Int) = match rws s (d + 1) i with
   | none => some (([] : List Int),false)
   | some rs => some (Srt.dd (Srt.msort (acc ++ expR rs)),lenOk s):=by
 induction d with
 | zero =>
  intro k i acc hd hk hi ha
  obtain ⟨k,rfl⟩ : ∃ k',k = k' + 1:=⟨k - 1,by omega⟩
  rw [impl_readSet.l0,if_neg om_,rws,if_neg om_,slices_Sort_byte_byte.f,if_pos om_,Option.bind_some,slices_Compact_byte_byte.f,Srt.msort_length,if_pos om_,Option.bind_some,within_is]
  simp [expR,lenOk]
 | succ d ih =>
  intro k i acc hd hk hi ha
  obtain ⟨k,rfl⟩ : ∃ k',k = k' + 32:=⟨k - 32,by omega⟩
  by_cases h : i < s.size
  ·have hr:=bt_range s (i : Int)
   have hr1:=bt_range s ((i + 2 : Nat) : Int)
   rw [impl_readSet.l0,if_pos om_,if_pos om_,w64_1 i om_,rws,if_pos h]
   have hout : ∀ x : Bool,x = decide (i + 1 < s.size ∧ bt s ((i + 1 : Nat) : Int) = 45) → impl_readSet.j1 (k + 31) s acc ((i + 1 : Nat) : Int) (bt s (i : Int)) (bt s (i : Int)) x =
     match (if sb (bt s (i : Int)) = true then
      (if i + 2 < s.size ∧ bt s ((i + 1 : Nat) : Int) = 45 then
       (if sb (bt s ((i + 2 : Nat) : Int)) = true ∧ bt s (i : Int) ≤ bt s ((i + 2 : Nat) : Int) ∧ (57 < bt s ((i + 2 : Nat) : Int) ↔ 57 < bt s (i : Int))
        then (rws s (d + 1) (i + 3)).map ((bt s (i : Int),bt s ((i + 2 : Nat) : Int)) :: ·) else none)
      else (rws s (d + 1) (i + 1)).map ((bt s (i : Int),bt s (i : Int)) :: ·)) else none) with
      | none => some (([] : List Int),false)
      | some rs => some (Srt.dd (Srt.msort (acc ++ expR rs)),lenOk s):=by
    rintro x rfl
    rw [impl_readSet.j1]
    by_cases hm : i + 1 < s.size ∧ bt s ((i + 1 : Nat) : Int) = 45
    ·rw [if_pos (decide_eq_true hm),w64_1 (i + 1) om_]
     by_cases hend : i + 2 = s.size
     ·rw [if_pos om_,if_neg (show ¬ (i + 2 < s.size ∧ bt s ((i + 1 : Nat) : Int) = 45) by omega)]
      obtain ⟨d',rfl⟩ : ∃ d',d = d' + 1:=⟨d - 1,by omega⟩
      rw [rws,if_pos hm.1,hm.2,if_neg (show ¬ sb 45 = true by decide)]
      by_cases hb : sb (bt s (i : Int)) = true
      ·rw [if_pos hb];rfl
      ·rw [if_neg hb]
     ·rw [if_neg om_,if_pos om_,if_pos om_,w64_2 (i + 1) om_,readSet_j2 s (k + 0) acc _ _ _ hr.1 hr.2 hr1.1 hr1.2 om_,if_pos (show i + 2 < s.size ∧ bt s ((i + 1 : Nat) : Int) = 45 from ⟨by omega,hm.2⟩)]
      by_cases hb : sb (bt s (i : Int)) = true
      ·rw [if_pos hb]
       by_cases hc : sb (bt s ((i + 2 : Nat) : Int)) = true ∧ bt s (i : Int) ≤ bt s ((i + 2 : Nat) : Int) ∧ (57 < bt s ((i + 2 : Nat) : Int) ↔ 57 < bt s (i : Int))
       ·have hsg : (bt s ((i + 2 : Nat) : Int) + 1 - bt s (i : Int)).toNat ≤ 26:=by
         have h1:=hb
         have h2:=hc.1
         unfold sb at h1 h2
         have h1:=of_decide_eq_true h1
         have h2:=of_decide_eq_true h2
         omega
        rw [if_pos hc,if_pos ⟨hb,hc⟩,ih _ (i + 3) _ om_ om_ om_ (by rw [List.length_append,seg_length];omega)]
        cases rws s (d + 1) (i + 3) with
        | none => rfl
        | some rs => simp only [Option.map_some,expR_cons,List.append_assoc]
       ·rw [if_neg hc,if_neg (fun h => hc h.2)]
      ·rw [if_neg hb,if_neg (fun h => hb h.1)]
    ·rw [if_neg (by simpa using hm),readSet_j2 s (k + 0) acc _ _ _ hr.1 hr.2 hr.1 hr.2 om_,if_neg (show ¬ (i + 2 < s.size ∧ bt s ((i + 1 : Nat) : Int) = 45) from fun h => hm ⟨by omega,h.2⟩)]
     by_cases hb : sb (bt s (i : Int)) = true
     ·rw [if_pos hb,if_pos ⟨hb,hb,Int.le_refl _,Iff.rfl⟩,ih _ (i + 1) _ om_ om_ om_ (by rw [List.length_append,seg_length];omega)]
      cases rws s (d + 1) (i + 1) with
      | none => rfl
      | some rs => simp only [Option.map_some,expR_cons,List.append_assoc]
     ·rw [if_neg hb,if_neg (fun h => hb h.1)]
   by_cases h2 : i + 1 < s.size
   ·rw [if_pos om_,if_pos om_]
    exact hout _ (by simp only [h2,true_and];rfl)
   ·rw [if_neg om_]
    exact hout _ (by simp [h2])
  ·rw [impl_readSet.l0,if_neg om_,rws,if_neg om_,slices_Sort_byte_byte.f,if_pos om_,Option.bind_some,slices_Compact_byte_byte.f,Srt.msort_length,if_pos om_,Option.bind_some,within_is]
   simp [expR,lenOk]
theorem readSet_is (s : ByteArray) (hs : s.size ≤ 1048576) (k : Nat) (hk : 40 * s.size + 40 ≤ k) : impl_readSet.f k s = match rowsOf s with
   | none => some (([] : List Int),false)
   | some rs => some (Srt.dd (Srt.msort (expR rs)),lenOk s):=by
 have h:=readSet_l0 s hs s.size k 0 [] om_ hk om_ (by simp)
 simp only [List.nil_append] at h
 exact h
theorem mem_last {α : Type} {l : List α} {y : α} (h : l.getLast? = some y) : y ∈ l:=List.mem_of_getLast? h
theorem mem_dd (n : Nat) : ∀ (l : List Int),l.length = n → ∀ x,x ∈ Srt.dd l ↔ x ∈ l:=by
 induction n with
 | zero =>
  intro l hl x
  obtain rfl:=List.length_eq_zero_iff.1 hl
  rfl
 | succ n ih =>
  intro l hl x
  rcases List.eq_nil_or_concat l with rfl | ⟨m,y,rfl⟩
  ·rfl
  ·rw [List.concat_eq_append] at hl ⊢
   have hm : m.length = n:=by simpa using hl
   rw [Srt.dd_snoc]
   by_cases h : (Srt.dd m).getLast? = some y
   ·rw [if_pos h,ih m hm x,List.mem_append,List.mem_singleton]
    constructor
    ·exact Or.inl
    ·rintro (h2 | rfl)
     ·exact h2
     ·exact (ih m hm x).1 (mem_last h)
   ·rw [if_neg h,List.mem_append,List.mem_append,ih m hm x]
theorem asc_last {L : List Int} (h : L.Pairwise (· < ·)) {z : Int} (hz : L.getLast? = some z) (x : Int) (hx : x ∈ L) : x ≤ z:=by
 rcases List.eq_nil_or_concat L with rfl | ⟨m,y,rfl⟩
 ·cases hx
 ·rw [List.concat_eq_append] at h hz hx
  obtain ⟨_,_,h3⟩:=List.pairwise_append.1 h
  have hy : y = z:=by simpa using hz
  subst hy
  rw [List.mem_append,List.mem_singleton] at hx
  rcases hx with hx | rfl
  ·exact Int.le_of_lt (h3 x hx y (by simp))
  ·exact Int.le_refl _
theorem dd_asc (n : Nat) : ∀ (l : List Int),l.length = n → l.Pairwise (· ≤ ·) → (Srt.dd l).Pairwise (· < ·):=by
 induction n with
 | zero =>
  intro l hl _
  obtain rfl:=List.length_eq_zero_iff.1 hl
  exact List.Pairwise.nil
 | succ n ih =>
  intro l hl hp
  rcases List.eq_nil_or_concat l with rfl | ⟨m,y,rfl⟩
  ·exact List.Pairwise.nil
  ·rw [List.concat_eq_append] at hl hp ⊢
   have hm : m.length = n:=by simpa using hl
   obtain ⟨h1,_,h3⟩:=List.pairwise_append.1 hp
   have hi:=ih m hm h1
   rw [Srt.dd_snoc]
   by_cases h : (Srt.dd m).getLast? = some y
   ·rw [if_pos h];exact hi
   ·rw [if_neg h]
    refine List.pairwise_append.2 ⟨hi,List.pairwise_singleton _ _,fun a ha b hb => ?_⟩
    rw [List.mem_singleton] at hb
    subst hb
    have hle:=h3 a ((mem_dd n m hm a).1 ha) b (by simp)
    rcases Int.lt_or_eq_of_le hle with h' | rfl
    ·exact h'
    ·exfalso
     cases hz : (Srt.dd m).getLast? with
     | none => rw [List.getLast?_eq_none_iff] at hz;rw [hz] at ha;cases ha
     | some z =>
      have z1:=asc_last hi hz a ha
      have z2:=h3 z ((mem_dd n m hm z).1 (mem_last hz)) a (by simp)
      exact h (by rw [hz,Int.le_antisymm z2 z1])
theorem msort_asc (l : List Int) : (Srt.msort l).Pairwise (· ≤ ·):=by
 have h:=List.pairwise_mergeSort (le:=fun (x y : Int) => decide (x ≤ y)) (fun a b c h1 h2 => by simp only [decide_eq_true_eq] at *;omega) (fun a b => by simp only [Bool.or_eq_true,decide_eq_true_eq];omega) l
 exact h.imp (fun h => by simpa using h)
theorem mem_msort (l : List Int) (x : Int) : x ∈ Srt.msort l ↔ x ∈ l:=List.mem_mergeSort
theorem mem_ddms (l : List Int) (x : Int) : x ∈ Srt.dd (Srt.msort l) ↔ x ∈ l:=(mem_dd _ _ rfl x).trans (mem_msort l x)
theorem ddms_asc (l : List Int) : (Srt.dd (Srt.msort l)).Pairwise (· < ·):=dd_asc _ _ rfl (msort_asc l)
theorem asc_unique : ∀ (l1 l2 : List Int),l1.Pairwise (· < ·) → l2.Pairwise (· < ·) → (∀ x,x ∈ l1 ↔ x ∈ l2) → l1 = l2
 | [],[],_,_,_ => rfl
 | [],b :: l2,_,_,h => by have:=(h b).2 (by simp);cases this
 | a :: l1,[],_,_,h => by have:=(h a).1 (by simp);cases this
 | a :: l1,b :: l2,h1,h2,h => by
  obtain ⟨p1,q1⟩:=List.pairwise_cons.1 h1
  obtain ⟨p2,q2⟩:=List.pairwise_cons.1 h2
  have hab : a = b:=by
   have x1:=(h a).1 (by simp)
   have x2:=(h b).2 (by simp)
   rw [List.mem_cons] at x1 x2
   rcases x1 with rfl | x1
   ·rfl
   ·rcases x2 with rfl | x2
    ·rfl
    ·have:=p2 a x1
     have:=p1 b x2
     omega
  subst hab
  congr 1
  refine asc_unique l1 l2 q1 q2 fun x => ?_
  constructor
  ·intro hx
   have hlt:=p1 x hx
   have:=(h x).1 (List.mem_cons_of_mem _ hx)
   rw [List.mem_cons] at this
   rcases this with rfl | this
   ·omega
   ·exact this
  ·intro hx
   have hlt:=p2 x hx
   have:=(h x).2 (List.mem_cons_of_mem _ hx)
   rw [List.mem_cons] at this
   rcases this with rfl | this
   ·omega
   ·exact this
theorem w64_n1 (i : Nat) (h : i ≤ 1000000000) : wrap64 ((i : Int) + 1) = ((i + 1 : Nat) : Int):=by rw [w64 om_ om_];omega
theorem w64_n2 (i : Nat) (h : i ≤ 1000000000) : wrap64 ((i : Int) + 2) = ((i + 2 : Nat) : Int):=by rw [w64 om_ om_];omega
def inR (s : ByteArray) (b : Int) : Bool:=match rowsOf s with
 | none => false
 | some rs => lenOk s && rs.any fun p => decide (p.1 ≤ b ∧ b ≤ p.2)
def allL (s : ByteArray) : List Int:=match rowsOf s with
 | none => []
 | some rs => if lenOk s = true then Srt.dd (Srt.msort (expR rs)) else []
theorem rws_good (s : ByteArray) (f : Nat) : ∀ (i : Nat) (rs : List (Int × Int)),i ≤ s.size → rws s f i = some rs → rs.length ≤ s.size - i ∧ ∀ p ∈ rs,sb p.1 = true ∧ sb p.2 = true ∧ p.1 ≤ p.2 ∧ (57 < p.2 ↔ 57 < p.1):=by
 induction f with
 | zero => intro i rs hi h;cases h
 | succ f ih =>
  intro i rs hi h
  rw [rws] at h
  by_cases hs : i < s.size
  ·rw [if_pos hs] at h
   by_cases hb : sb (bt s (i : Int)) = true
   ·rw [if_pos hb] at h
    by_cases hm : i + 2 < s.size ∧ bt s ((i + 1 : Nat) : Int) = 45
    ·rw [if_pos hm] at h
     by_cases hc : sb (bt s ((i + 2 : Nat) : Int)) = true ∧ bt s (i : Int) ≤ bt s ((i + 2 : Nat) : Int) ∧ (57 < bt s ((i + 2 : Nat) : Int) ↔ 57 < bt s (i : Int))
     ·rw [if_pos hc] at h
      obtain ⟨rs',h',rfl⟩:=Option.map_eq_some_iff.1 h
      obtain ⟨h1,h2⟩:=ih (i + 3) rs' om_ h'
      refine ⟨by simp only [List.length_cons];omega,fun p hp => ?_⟩
      rw [List.mem_cons] at hp
      rcases hp with rfl | hp
      ·exact ⟨hb,hc.1,hc.2.1,hc.2.2⟩
      ·exact h2 p hp
     ·rw [if_neg hc] at h;cases h
    ·rw [if_neg hm] at h
     obtain ⟨rs',h',rfl⟩:=Option.map_eq_some_iff.1 h
     obtain ⟨h1,h2⟩:=ih (i + 1) rs' om_ h'
     refine ⟨by simp only [List.length_cons];omega,fun p hp => ?_⟩
     rw [List.mem_cons] at hp
     rcases hp with rfl | hp
     ·exact ⟨hb,hb,Int.le_refl _,Iff.rfl⟩
     ·exact h2 p hp
   ·rw [if_neg hb] at h;cases h
  ·rw [if_neg hs] at h
   obtain rfl:=Option.some.inj h
   exact ⟨by simp,by simp⟩
theorem sb_range {c : Int} (h : sb c = true) : 0 ≤ c ∧ c ≤ 255:=by
 unfold sb at h
 have:=of_decide_eq_true h
 omega
theorem rowsOf_good {s : ByteArray} {rs : List (Int × Int)} (h : rowsOf s = some rs) : rs.length ≤ s.size ∧ ∀ p ∈ rs,sb p.1 = true ∧ sb p.2 = true ∧ p.1 ≤ p.2 ∧ (57 < p.2 ↔ 57 < p.1):=by
 have:=rws_good s _ 0 rs (Nat.zero_le _) h
 simpa using this
theorem mem_expR (rs : List (Int × Int)) (b : Int) : b ∈ expR rs ↔ (rs.any fun p => decide (p.1 ≤ b ∧ b ≤ p.2)) = true:=by
 unfold expR
 rw [List.mem_flatMap,List.any_eq_true]
 constructor
 ·rintro ⟨p,hp,h⟩
  exact ⟨p,hp,decide_eq_true ((mem_seg _ _ _).1 h)⟩
 ·rintro ⟨p,hp,h⟩
  exact ⟨p,hp,(mem_seg _ _ _).2 (of_decide_eq_true h)⟩
theorem mem_allL (s : ByteArray) (b : Int) : b ∈ allL s ↔ inR s b = true:=by
 unfold allL inR
 cases rowsOf s with
 | none => simp
 | some rs =>
  show b ∈ (if lenOk s = true then Srt.dd (Srt.msort (expR rs)) else []) ↔ (lenOk s && rs.any fun p => decide (p.1 ≤ b ∧ b ≤ p.2)) = true
  by_cases h : lenOk s = true
  ·rw [if_pos h,mem_ddms,mem_expR,h,Bool.true_and]
  ·rw [if_neg h]
   rw [Bool.not_eq_true] at h
   rw [h];simp
theorem allL_asc (s : ByteArray) : (allL s).Pairwise (· < ·):=by
 unfold allL
 cases rowsOf s with
 | none => exact List.Pairwise.nil
 | some rs =>
  show (if lenOk s = true then Srt.dd (Srt.msort (expR rs)) else []).Pairwise (· < ·)
  by_cases h : lenOk s = true
  ·rw [if_pos h];exact ddms_asc _
  ·rw [if_neg h];exact List.Pairwise.nil
theorem inR_sb {s : ByteArray} {b : Int} (h : inR s b = true) : sb b = true:=by
 unfold inR at h
 cases hr : rowsOf s with
 | none => rw [hr] at h;cases h
 | some rs =>
  rw [hr] at h
  have h2 : (rs.any fun p => decide (p.1 ≤ b ∧ b ≤ p.2)) = true:=by
   have h' : (lenOk s && rs.any fun p => decide (p.1 ≤ b ∧ b ≤ p.2)) = true:=h
   rw [Bool.and_eq_true] at h'
   exact h'.2
  obtain ⟨p,hp,hpb⟩:=List.any_eq_true.1 h2
  have hpb:=of_decide_eq_true hpb
  obtain ⟨g1,g2,g3,g4⟩:=(rowsOf_good hr).2 p hp
  unfold sb at g1 g2 ⊢
  have g1:=of_decide_eq_true g1
  have g2:=of_decide_eq_true g2
  exact decide_eq_true om_
theorem encR_length (rs : List (Int × Int)) : (encR rs).length = 2 * rs.length:=by
 induction rs with
 | nil => rfl
 | cons p rs ih => rw [encR_cons,List.length_append,ih];simp only [List.length_cons,List.length_nil];omega
theorem encR_range (rs : List (Int × Int)) (h : ∀ p ∈ rs,sb p.1 = true ∧ sb p.2 = true ∧ p.1 ≤ p.2 ∧ (57 < p.2 ↔ 57 < p.1)) : ∀ x ∈ encR rs,0 ≤ x ∧ x ≤ 255:=by
 intro x hx
 unfold encR at hx
 obtain ⟨p,hp,hx⟩:=List.mem_flatMap.1 hx
 have hx : x = p.1 ∨ x = p.2:=by simpa using hx
 rcases hx with rfl | rfl
 ·exact sb_range (h p hp).1
 ·exact sb_range (h p hp).2.1
theorem lenOk_le {s : ByteArray} (h : lenOk s = true) : s.size ≤ 12:=by
 unfold lenOk at h
 have:=of_decide_eq_true h
 omega
theorem allL_range (s : ByteArray) : ∀ x ∈ allL s,0 ≤ x ∧ x ≤ 255:=fun x hx => sb_range (inR_sb ((mem_allL s x).1 hx))
def setOkR (s : ByteArray) : Bool:=(rowsOf s).isSome && lenOk s
theorem bs_extract (s : ByteArray) (a b : Nat) : bs (s.extract a b) = ((bs s).drop a).take (b - a):=by
 unfold bs
 rw [ByteArray.data_extract,Array.toList_extract,List.extract_eq_take_drop,List.map_take,List.map_drop]
def rl : List Int → Nat
 | [] => 0
 | [_] => 1
 | x :: y :: l => if y = x + 1 then rl (y :: l) + 1 else 1
theorem rl_pos (x : Int) (l : List Int) : 1 ≤ rl (x :: l):=by
 cases l with
 | nil => exact Nat.le_refl _
 | cons y l => rw [rl];split <;> omega
theorem rl_le : ∀ l : List Int,rl l ≤ l.length
 | [] => Nat.le_refl _
 | [_] => Nat.le_refl _
 | x :: y :: l => by
  have:=rl_le (y :: l)
  rw [rl]
  simp only [List.length_cons] at this ⊢
  split <;> omega
theorem rl_at : ∀ (x : Int) (l : List Int) (j : Nat),j < rl (x :: l) → (x :: l).getD j 0 = x + (j : Int)
 | x,l,0,_ => by simp
 | x,[],j + 1,h => by rw [rl] at h;omega
 | x,y :: l,j + 1,h => by
  rw [rl] at h
  by_cases hy : y = x + 1
  ·rw [if_pos hy] at h
   have:=rl_at y l j om_
   rw [List.getD_cons_succ,this]
   omega
  ·rw [if_neg hy] at h;omega
theorem rl_end : ∀ (x : Int) (l : List Int),rl (x :: l) < (x :: l).length → (x :: l).getD (rl (x :: l)) 0 ≠ x + (rl (x :: l) : Int)
 | x,[],h => by simp [rl] at h
 | x,y :: l,h => by
  by_cases hy : y = x + 1
  ·have e : rl (x :: y :: l) = rl (y :: l) + 1:=by rw [rl,if_pos hy]
   rw [e,List.getD_cons_succ]
   rw [e] at h
   have:=rl_end y l (by simp only [List.length_cons] at h ⊢;omega)
   omega
  ·have e : rl (x :: y :: l) = 1:=by rw [rl,if_neg hy]
   rw [e]
   simpa using hy
theorem rl_mem : ∀ (x : Int) (l : List Int) (n : Nat),(x :: l).Pairwise (· < ·) → 1 ≤ n → n ≤ rl (x :: l) → (x + (n : Int) ∈ x :: l ↔ n < rl (x :: l))
 | x,[],n,_,h1,h2 => by
  simp only [rl] at h2 ⊢
  have : n = 1:=by omega
  subst this
  simp only [List.mem_singleton]
  omega
 | x,y :: l,n,hp,h1,h2 => by
  have hq:=(List.pairwise_cons.1 hp).2
  have hxy : x < y:=(List.pairwise_cons.1 hp).1 y (by simp)
  have hyl : ∀ z ∈ l,y < z:=(List.pairwise_cons.1 hq).1
  by_cases hy : y = x + 1
  ·have e : rl (x :: y :: l) = rl (y :: l) + 1:=by rw [rl,if_pos hy]
   rw [e] at h2 ⊢
   have hp1:=rl_pos y l
   rw [List.mem_cons]
   by_cases hn : n = 1
   ·subst hn
    exact ⟨fun _ => by omega,fun _ => Or.inr (by rw [hy];simp)⟩
   ·have ih:=rl_mem y l (n - 1) hq om_ om_
    rw [show y + ((n - 1 : Nat) : Int) = x + (n : Int) by omega] at ih
    rw [ih]
    constructor
    ·rintro (h | h)
     ·omega
     ·omega
    ·intro h;exact Or.inr om_
  ·have e : rl (x :: y :: l) = 1:=by rw [rl,if_neg hy]
   rw [e] at h2 ⊢
   have : n = 1:=by omega
   subst this
   constructor
   ·intro h
    rw [List.mem_cons,List.mem_cons] at h
    rcases h with h | h | h
    ·omega
    ·omega
    ·have:=hyl _ h;omega
   ·intro h;omega
theorem rl_take : ∀ (x : Int) (l : List Int),(x :: l).take (rl (x :: l)) = seg x (x + (rl (x :: l) : Int) - 1)
 | x,[] => by
  simp only [rl]
  rw [seg_cons _ _ om_,seg_nil _ _ om_];rfl
 | x,y :: l => by
  by_cases hy : y = x + 1
  ·have e : rl (x :: y :: l) = rl (y :: l) + 1:=by rw [rl,if_pos hy]
   have hp1:=rl_pos y l
   rw [e,List.take_succ_cons,rl_take y l,seg_cons x _ om_,hy]
   congr 2
   omega
  ·have e : rl (x :: y :: l) = 1:=by rw [rl,if_neg hy]
   rw [e,seg_cons _ _ om_,seg_nil _ _ om_];rfl
def piece (x : Int) (n : Nat) : List Int:=if 3 ≤ n then [x,45,x + (n : Int) - 1] else seg x (x + (n : Int) - 1)
theorem piece_length (x : Int) (n : Nat) : (piece x n).length ≤ n:=by
 unfold piece
 split
 ·simpa using ‹3 ≤ n›
 ·rw [seg_length];omega
def encL : Nat → List Int → List Int
 | 0,_ => []
 | _ + 1,[] => []
 | f + 1,x :: l => piece x (rl (x :: l)) ++ encL f ((x :: l).drop (rl (x :: l)))
theorem encL_nil (f : Nat) : encL f [] = []:=by cases f <;> rfl
theorem encL_fuel : ∀ (f g : Nat) (l : List Int),l.length ≤ f → l.length ≤ g → encL f l = encL g l
 | f,g,[],_,_ => by rw [encL_nil,encL_nil]
 | 0,_,x :: l,h,_ => by simp at h
 | _,0,x :: l,_,h => by simp at h
 | f + 1,g + 1,x :: l,hf,hg => by
  rw [encL,encL]
  congr 1
  have:=rl_pos x l
  refine encL_fuel f g _ ?_ ?_ <;> (simp only [List.length_drop,List.length_cons] at *;omega)
theorem encL_length : ∀ (f : Nat) (l : List Int),(encL f l).length ≤ l.length
 | 0,_ => Nat.zero_le _
 | _ + 1,[] => Nat.le_refl _
 | f + 1,x :: l => by
  rw [encL,List.length_append]
  have h1:=piece_length x (rl (x :: l))
  have h2:=encL_length f ((x :: l).drop (rl (x :: l)))
  have h3:=rl_le (x :: l)
  rw [List.length_drop] at h2
  omega
theorem encL_cons (f : Nat) (x : Int) (l : List Int) (h : (x :: l).length ≤ f) : encL f (x :: l) = piece x (rl (x :: l)) ++ encL f ((x :: l).drop (rl (x :: l))):=by
 obtain ⟨f,rfl⟩ : ∃ g,f = g + 1:=⟨f - 1,by simp only [List.length_cons] at h;omega⟩
 rw [encL]
 congr 1
 have:=rl_pos x l
 refine encL_fuel _ _ _ ?_ ?_ <;> (simp only [List.length_drop,List.length_cons] at *;omega)
theorem piece_range (x : Int) (n : Nat) (h0 : 0 ≤ x) (h1 : x + (n : Int) ≤ 256) (hn : 1 ≤ n) : ∀ y ∈ piece x n,0 ≤ y ∧ y ≤ 255:=by
 intro y hy
 unfold piece at hy
 split at hy
 ·simp only [List.mem_cons,List.not_mem_nil,or_false] at hy
  omega
 ·have:=(mem_seg _ _ _).1 hy
  omega
theorem rl_bound {x : Int} {l : List Int} (h : ∀ y ∈ x :: l,0 ≤ y ∧ y ≤ 255) : x + (rl (x :: l) : Int) ≤ 256:=by
 have h1:=rl_pos x l
 have h2:=rl_le (x :: l)
 have h3:=rl_at x l (rl (x :: l) - 1) om_
 have h4 : (x :: l).getD (rl (x :: l) - 1) 0 ∈ x :: l:=by
  rw [List.getD_eq_getElem?_getD,List.getElem?_eq_getElem om_,Option.getD_some]
  exact List.getElem_mem _
 have:=h _ h4
 omega
theorem encL_range : ∀ (f : Nat) (l : List Int),(∀ y ∈ l,0 ≤ y ∧ y ≤ 255) → ∀ y ∈ encL f l,0 ≤ y ∧ y ≤ 255
 | 0,_,_,y,hy => by cases hy
 | _ + 1,[],_,y,hy => by cases hy
 | f + 1,x :: l,h,y,hy => by
  rw [encL,List.mem_append] at hy
  rcases hy with hy | hy
  ·exact piece_range x _ (h x (by simp)).1 (rl_bound h) (rl_pos x l) y hy
  ·exact encL_range f _ (fun z hz => h z (List.mem_of_mem_drop hz)) y hy
theorem seg_append (a b c : Int) (h1 : a ≤ b + 1) (h2 : b ≤ c) : seg a b ++ seg (b + 1) c = seg a c:=by
 have : ∀ (n : Nat) (a : Int),(b + 1 - a).toNat = n → a ≤ b + 1 → seg a b ++ seg (b + 1) c = seg a c:=by
  intro n
  induction n with
  | zero =>
   intro a hn ha
   rw [seg_nil a b om_,List.nil_append,show a = b + 1 by omega]
  | succ n ih =>
   intro a hn ha
   rw [seg_cons a b om_,seg_cons a c om_,List.cons_append,ih (a + 1) om_ om_]
 exact this _ a rfl h1
theorem rd_at (pre l : List Int) (j : Nat) : rd (pre ++ l) ((pre.length + j : Nat) : Int) = l.getD j 0:=by
 unfold rd
 rw [Int.toNat_natCast,List.getD_eq_getElem?_getD,List.getD_eq_getElem?_getD,List.getElem?_append_right om_,Nat.add_sub_cancel_left]
theorem encL_head (f : Nat) (x : Int) (l : List Int) (h : (x :: l).length ≤ f) : (encL f (x :: l)).getD 0 0 = x ∧ 1 ≤ (encL f (x :: l)).length:=by
 rw [encL_cons f x l h]
 have hp:=rl_pos x l
 unfold piece
 split
 ·exact ⟨rfl,by simp⟩
 ·rw [seg_cons _ _ om_]
  exact ⟨rfl,by simp⟩
theorem rws_enc (d : Nat) : ∀ (l pre : List Int) (F f : Nat),l.length ≤ d → l.length ≤ f → (∀ y ∈ pre,0 ≤ y ∧ y ≤ 255) → (∀ y ∈ l,sb y = true) → (encL f l).length + 1 ≤ F →
  ∃ rs,rws (strOfNums (pre ++ encL f l)) F pre.length = some rs ∧ expR rs = l:=by
 induction d with
 | zero =>
  intro l pre F f hd hf hpre hl hF
  obtain rfl : l = []:=List.length_eq_zero_iff.1 om_
  obtain ⟨F,rfl⟩ : ∃ G,F = G + 1:=⟨F - 1,by omega⟩
  exact ⟨[],by rw [encL_nil,List.append_nil,rws,if_neg (by rw [str_size];omega)],rfl⟩
 | succ d ih =>
  intro l pre F f hd hf hpre hl hF
  cases l with
  | nil =>
   obtain ⟨F,rfl⟩ : ∃ G,F = G + 1:=⟨F - 1,by omega⟩
   exact ⟨[],by rw [encL_nil,List.append_nil,rws,if_neg (by rw [str_size];omega)],rfl⟩
  | cons x l =>
   have hx:=hl x (by simp)
   have hr0 : ∀ y ∈ x :: l,0 ≤ y ∧ y ≤ 255:=fun y hy => sb_range (hl y hy)
   have hb:=rl_bound hr0
   have hp:=rl_pos x l
   have hle:=rl_le (x :: l)
   have hxr:=hr0 x (by simp)
   have htd : (x :: l).take (rl (x :: l)) ++ (x :: l).drop (rl (x :: l)) = x :: l:=List.take_append_drop _ _
   rw [rl_take] at htd
   have hrun : ∀ z,x ≤ z → z ≤ x + (rl (x :: l) : Int) - 1 → sb z = true:=fun z h1 h2 => hl z (by rw [← htd,List.mem_append];exact Or.inl ((mem_seg _ _ _).2 ⟨h1,h2⟩))
   have hl' : ∀ y ∈ (x :: l).drop (rl (x :: l)),sb y = true:=fun y hy => hl y (List.mem_of_mem_drop hy)
   have hd' : ((x :: l).drop (rl (x :: l))).length ≤ d:=by rw [List.length_drop];simp only [List.length_cons] at *;omega
   have hf' : ((x :: l).drop (rl (x :: l))).length ≤ f:=by rw [List.length_drop];omega
   have henc:=encL_cons f x l hf
   generalize hR : (x :: l).drop (rl (x :: l)) = R at *
   generalize hn : rl (x :: l) = n at *
   have hER:=encL_range f R (fun y hy => sb_range (hl' y hy))
   have hnext : ∀ (p : List Int),¬ (p.length + 2 < (strOfNums (p ++ x :: encL f R)).size ∧ bt (strOfNums (p ++ x :: encL f R)) ((p.length + 1 : Nat) : Int) = 45) ∨ ∃ y ∈ p,¬ (0 ≤ y ∧ y ≤ 255):=by
    intro p
    by_cases hpp : ∀ y ∈ p,0 ≤ y ∧ y ≤ 255
    ·left
     rintro ⟨h1,h2⟩
     rw [str_size,List.length_append,List.length_cons] at h1
     rw [bt_str (by intro y hy;rw [List.mem_append,List.mem_cons] at hy;rcases hy with hy | rfl | hy;exact hpp y hy;exact hxr;exact hER y hy) _ (by rw [List.length_append,List.length_cons];omega),rd_at,List.getD_cons_succ] at h2
     cases R with
     | nil => rw [encL_nil] at h1;simp at h1
     | cons z R =>
      rw [(encL_head f z R hf').1] at h2
      have:=hl' z (by simp)
      rw [h2] at this
      exact absurd this (by decide)
    ·right
     exact Classical.not_forall.1 hpp |>.elim fun y hy => ⟨y,Classical.not_imp.1 hy⟩
   have hone : ∀ (p : List Int) (G : Nat) (y : Int),(∀ z ∈ p,0 ≤ z ∧ z ≤ 255) → sb y = true → ¬ (p.length + 2 < (strOfNums (p ++ y :: encL f R)).size ∧ bt (strOfNums (p ++ y :: encL f R)) ((p.length + 1 : Nat) : Int) = 45) → (encL f R).length + 1 ≤ G →
     ∃ rs,rws (strOfNums (p ++ y :: encL f R)) (G + 1) p.length = some ((y,y) :: rs) ∧ expR rs = R:=by
    intro p G y hpp hy hno hG
    have hyr:=sb_range hy
    obtain ⟨rs,h1,h2⟩:=ih R (p ++ [y]) G f hd' hf' (by intro z hz;rw [List.mem_append,List.mem_singleton] at hz;rcases hz with hz | rfl;exact hpp z hz;exact hyr) hl' om_
    refine ⟨rs,?_,h2⟩
    rw [List.length_append,List.length_singleton,List.append_assoc] at h1
    have hby : bt (strOfNums (p ++ y :: encL f R)) (p.length : Int) = y:=by
     rw [bt_str (by intro z hz;rw [List.mem_append,List.mem_cons] at hz;rcases hz with hz | rfl | hz;exact hpp z hz;exact hyr;exact hER z hz) _ (by rw [List.length_append,List.length_cons];omega)]
     exact rd_at p _ 0
    rw [rws,if_pos (by rw [str_size,List.length_append,List.length_cons];omega),hby,if_pos hy,if_neg hno]
    rw [show p ++ y :: encL f R = p ++ ([y] ++ encL f R) from rfl,h1]
    rfl
   have hno1 : ∀ (p : List Int) (y : Int),(∀ z ∈ p,0 ≤ z ∧ z ≤ 255) → sb y = true → ¬ (p.length + 2 < (strOfNums (p ++ y :: encL f R)).size ∧ bt (strOfNums (p ++ y :: encL f R)) ((p.length + 1 : Nat) : Int) = 45):=by
    intro p y hpp hy
    have hyr:=sb_range hy
    rintro ⟨h1,h2⟩
    rw [str_size,List.length_append,List.length_cons] at h1
    rw [bt_str (by intro z hz;rw [List.mem_append,List.mem_cons] at hz;rcases hz with hz | rfl | hz;exact hpp z hz;exact hyr;exact hER z hz) _ (by rw [List.length_append,List.length_cons];omega),rd_at,List.getD_cons_succ] at h2
    cases R with
    | nil => rw [encL_nil] at h1;simp at h1
    | cons z R =>
     rw [(encL_head f z R hf').1] at h2
     have:=hl' z (by simp)
     rw [h2] at this
     exact absurd this (by decide)
   clear hnext
   rw [henc] at hF ⊢
   by_cases h3 : 3 ≤ n
   ·have hpc : piece x n = [x,45,x + (n : Int) - 1]:=by unfold piece;rw [if_pos h3]
    rw [hpc] at hF ⊢
    simp only [List.cons_append,List.nil_append,List.length_cons] at hF ⊢
    obtain ⟨F,rfl⟩ : ∃ G,F = G + 1:=⟨F - 1,by omega⟩
    have hy:=hrun (x + (n : Int) - 1) om_ om_
    have hyr:=sb_range hy
    obtain ⟨rs,h1,h2⟩:=ih R (pre ++ [x,45,x + (n : Int) - 1]) F f hd' hf' (by
     intro z hz;rw [List.mem_append] at hz
     rcases hz with hz | hz
     ·exact hpre z hz
     ·simp only [List.mem_cons,List.not_mem_nil,or_false] at hz;omega) hl' om_
    rw [List.length_append,List.append_assoc] at h1
    simp only [List.cons_append,List.nil_append,List.length_cons,List.length_nil] at h1
    have hall : ∀ z ∈ pre ++ x :: 45 :: (x + (n : Int) - 1) :: encL f R,0 ≤ z ∧ z ≤ 255:=by
     intro z hz
     rw [List.mem_append] at hz
     rcases hz with hz | hz
     ·exact hpre z hz
     ·simp only [List.mem_cons] at hz
      rcases hz with rfl | rfl | rfl | hz
      ·exact hxr
      ·omega
      ·exact hyr
      ·exact hER z hz
    have hlen : (pre ++ x :: 45 :: (x + (n : Int) - 1) :: encL f R).length = pre.length + 3 + (encL f R).length:=by simp only [List.length_append,List.length_cons];omega
    have b0 : bt (strOfNums (pre ++ x :: 45 :: (x + (n : Int) - 1) :: encL f R)) (pre.length : Int) = x:=by
     rw [bt_str hall _ om_];exact rd_at pre _ 0
    have b1 : bt (strOfNums (pre ++ x :: 45 :: (x + (n : Int) - 1) :: encL f R)) ((pre.length + 1 : Nat) : Int) = 45:=by
     rw [bt_str hall _ om_];exact rd_at pre _ 1
    have b2 : bt (strOfNums (pre ++ x :: 45 :: (x + (n : Int) - 1) :: encL f R)) ((pre.length + 2 : Nat) : Int) = x + (n : Int) - 1:=by
     rw [bt_str hall _ om_];exact rd_at pre _ 2
    refine ⟨(x,x + (n : Int) - 1) :: rs,?_,?_⟩
    ·have hcls : (57 < x + (n : Int) - 1 ↔ 57 < x):=by
      constructor
      ·intro h57
       apply Classical.byContradiction
       intro hxx
       have:=hrun 58 om_ om_
       exact absurd this (by decide)
      ·intro h57;omega
     rw [rws,if_pos (by rw [str_size];omega),b0,if_pos hx,if_pos (by rw [str_size];exact ⟨by omega,b1⟩),b2,if_pos ⟨hy,by omega,hcls⟩,h1]
     rfl
    ·rw [expR_cons,h2]
     exact htd
   ·have hpc : piece x n = seg x (x + (n : Int) - 1):=by unfold piece;rw [if_neg h3]
    rw [hpc] at hF ⊢
    by_cases h1n : n = 1
    ·subst h1n
     rw [show x + ((1 : Nat) : Int) - 1 = x by omega,seg_cons x x om_,seg_nil (x + 1) x om_] at hF ⊢
     simp only [List.cons_append,List.nil_append,List.length_cons] at hF ⊢
     obtain ⟨F,rfl⟩ : ∃ G,F = G + 1:=⟨F - 1,by omega⟩
     obtain ⟨rs,h1,h2⟩:=hone pre F x hpre hx (hno1 pre x hpre hx) om_
     refine ⟨_,h1,?_⟩
     rw [expR_cons,h2]
     rw [show x + ((1 : Nat) : Int) - 1 = x by omega] at htd
     exact htd
    ·have h2n : n = 2:=by omega
     subst h2n
     rw [show x + ((2 : Nat) : Int) - 1 = x + 1 by omega,seg_cons x _ om_,seg_cons (x + 1) _ om_,seg_nil _ _ om_] at hF ⊢
     simp only [List.cons_append,List.nil_append,List.length_cons] at hF ⊢
     obtain ⟨F,rfl⟩ : ∃ G,F = G + 2:=⟨F - 2,by omega⟩
     have hy:=hrun (x + 1) om_ om_
     obtain ⟨rs,h1,h2⟩:=hone (pre ++ [x]) F (x + 1) (by intro z hz;rw [List.mem_append,List.mem_singleton] at hz;rcases hz with hz | rfl;exact hpre z hz;exact hxr) hy (hno1 _ _ (by intro z hz;rw [List.mem_append,List.mem_singleton] at hz;rcases hz with hz | rfl;exact hpre z hz;exact hxr) hy) om_
     rw [List.length_append,List.length_singleton,List.append_assoc] at h1
     simp only [List.cons_append,List.nil_append] at h1
     refine ⟨(x,x) :: (x + 1,x + 1) :: rs,?_,?_⟩
     ·have hall : ∀ z ∈ pre ++ x :: (x + 1) :: encL f R,0 ≤ z ∧ z ≤ 255:=by
       intro z hz
       rw [List.mem_append] at hz
       rcases hz with hz | hz
       ·exact hpre z hz
       ·simp only [List.mem_cons] at hz
        rcases hz with rfl | rfl | hz
        ·exact hxr
        ·exact sb_range hy
        ·exact hER z hz
      have hlen : (pre ++ x :: (x + 1) :: encL f R).length = pre.length + 2 + (encL f R).length:=by simp only [List.length_append,List.length_cons];omega
      have b0 : bt (strOfNums (pre ++ x :: (x + 1) :: encL f R)) (pre.length : Int) = x:=by
       rw [bt_str hall _ om_];exact rd_at pre _ 0
      have b1 : bt (strOfNums (pre ++ x :: (x + 1) :: encL f R)) ((pre.length + 1 : Nat) : Int) = x + 1:=by
       rw [bt_str hall _ om_];exact rd_at pre _ 1
      have hne : x + 1 ≠ 45:=fun e => by rw [e] at hy;exact absurd hy (by decide)
      rw [rws,if_pos (by rw [str_size];omega),b0,if_pos hx,if_neg (by rw [b1];exact fun h => hne h.2),h1]
      rfl
     ·rw [expR_cons,expR_cons,h2,← List.append_assoc,seg_append _ _ _ om_ om_]
      rw [show x + ((2 : Nat) : Int) - 1 = x + 1 by omega] at htd
      exact htd
def encA (l : List Int) : ByteArray:=strOfNums (encL l.length l)
theorem rowsOf_enc (l : List Int) (hl : ∀ y ∈ l,sb y = true) : ∃ rs,rowsOf (encA l) = some rs ∧ expR rs = l:=by
 unfold rowsOf encA
 have:=rws_enc l.length l [] ((strOfNums (encL l.length l)).size + 1) l.length (Nat.le_refl _) (Nat.le_refl _) (by simp) hl (by rw [str_size];exact Nat.le_refl _)
 simpa using this
theorem ddms_self (l : List Int) (h : l.Pairwise (· < ·)) : Srt.dd (Srt.msort l) = l:=asc_unique _ _ (ddms_asc l) h (fun x => mem_ddms l x)
theorem allL_enc (l : List Int) (hl : ∀ y ∈ l,sb y = true) (ha : l.Pairwise (· < ·)) (hk : setOkR (encA l) = true) : allL (encA l) = l:=by
 obtain ⟨rs,h1,h2⟩:=rowsOf_enc l hl
 unfold setOkR at hk
 rw [h1] at hk
 unfold allL
 rw [h1]
 show (if lenOk (encA l) = true then _ else _) = l
 rw [if_pos (by simpa using hk),h2,ddms_self l ha]
theorem encA_size (l : List Int) : (encA l).size ≤ l.length:=by unfold encA;rw [str_size];exact encL_length _ _
def fin (o : ByteArray) : ByteArray × Bool:=if setOkR o = true then (o,true) else (⟨#[]⟩,false)
def setOfR (s : ByteArray) : ByteArray × Bool:=if (bs s).all sb = true then fin (encA (Srt.dd (Srt.msort (bs s)))) else (⟨#[]⟩,false)
theorem dd_len (l : List Int) : (Srt.dd l).length ≤ l.length:=by
 have : ∀ (n : Nat) (l : List Int),l.length = n → (Srt.dd l).length ≤ l.length:=by
  intro n
  induction n with
  | zero => intro l hl;rw [List.length_eq_zero_iff.1 hl];exact Nat.le_refl _
  | succ n ih =>
   intro l hl
   rcases List.eq_nil_or_concat l with rfl | ⟨m,y,rfl⟩
   ·exact Nat.le_refl _
   ·rw [List.concat_eq_append] at hl ⊢
    have hm:=ih m (by simpa using hl)
    rw [Srt.dd_snoc]
    split <;> simp only [List.length_append,List.length_cons,List.length_nil] <;> omega
 exact this _ l rfl
theorem all_ddms (l : List Int) : (Srt.dd (Srt.msort l)).all sb = l.all sb:=by
 rw [Bool.eq_iff_iff,List.all_eq_true,List.all_eq_true]
 exact ⟨fun h x hx => h x ((mem_ddms l x).2 hx),fun h x hx => h x ((mem_ddms l x).1 hx)⟩
theorem asc_length : ∀ (l : List Int) (a b : Int),l.Pairwise (· < ·) → (∀ x ∈ l,a ≤ x ∧ x ≤ b) → l.length ≤ (b + 1 - a).toNat
 | [],_,_,_,_ => Nat.zero_le _
 | x :: l,a,b,hp,h => by
  obtain ⟨h1,h2⟩:=List.pairwise_cons.1 hp
  have hx:=h x (by simp)
  have:=asc_length l (x + 1) b h2 (fun y hy => by have:=h1 y hy;have:=h y (List.mem_cons_of_mem _ hy);omega)
  simp only [List.length_cons]
  omega
theorem allL_length (s : ByteArray) : (allL s).length ≤ 75:=by
 have:=asc_length (allL s) 48 122 (allL_asc s) (fun x hx => by
  have h:=inR_sb ((mem_allL s x).1 hx)
  unfold sb at h
  have h:=of_decide_eq_true h
  omega)
 omega
theorem bs_allL (s : ByteArray) : bs (strOfNums (allL s)) = allL s:=bs_str (allL_range s)
theorem allL_sb (s : ByteArray) : ∀ x ∈ allL s,sb x = true:=fun x hx => inR_sb ((mem_allL s x).1 hx)
theorem setOfR_ok {s : ByteArray} (h : (setOfR s).2 = true) : setOkR (setOfR s).1 = true ∧ allL (setOfR s).1 = Srt.dd (Srt.msort (bs s)) ∧ (setOfR s).1.size ≤ s.size:=by
 unfold setOfR at h ⊢
 by_cases ha : (bs s).all sb = true
 ·rw [if_pos ha] at h ⊢
  unfold fin at h ⊢
  by_cases hk : setOkR (encA (Srt.dd (Srt.msort (bs s)))) = true
  ·rw [if_pos hk] at h ⊢
   refine ⟨hk,allL_enc _ (fun y hy => ?_) (ddms_asc _) hk,?_⟩
   ·exact List.all_eq_true.1 ha y ((mem_ddms _ _).1 hy)
   ·have h1:=encA_size (Srt.dd (Srt.msort (bs s)))
    have h2:=dd_len (Srt.msort (bs s))
    rw [Srt.msort_length,bs_length] at h2
    exact Nat.le_trans h1 h2
  ·rw [if_neg hk] at h;cases h
 ·rw [if_neg ha] at h;cases h
theorem setOfR_in {s : ByteArray} (h : (setOfR s).2 = true) (b : Int) : inR (setOfR s).1 b = true ↔ b ∈ bs s:=by
 rw [← mem_allL,(setOfR_ok h).2.1,mem_ddms]
theorem ddms_congr {l1 l2 : List Int} (h : ∀ x,x ∈ l1 ↔ x ∈ l2) : Srt.dd (Srt.msort l1) = Srt.dd (Srt.msort l2) :=
 asc_unique _ _ (ddms_asc _) (ddms_asc _) (fun x => by rw [mem_ddms,mem_ddms,h])
theorem setOfR_congr {s t : ByteArray} (h : ∀ x,x ∈ bs s ↔ x ∈ bs t) : setOfR s = setOfR t:=by
 unfold setOfR
 have e : (bs s).all sb = (bs t).all sb:=by
  rw [Bool.eq_iff_iff,List.all_eq_true,List.all_eq_true]
  exact ⟨fun H x hx => H x ((h x).2 hx),fun H x hx => H x ((h x).1 hx)⟩
 rw [e,ddms_congr h]
theorem setOfR_no {s : ByteArray} (h : (setOfR s).2 ≠ true) : (setOfR s).1 = ⟨#[]⟩:=by
 unfold setOfR fin at h ⊢
 by_cases ha : (bs s).all sb = true
 ·rw [if_pos ha] at h ⊢
  by_cases hk : setOkR (encA (Srt.dd (Srt.msort (bs s)))) = true
  ·rw [if_pos hk] at h;exact absurd rfl h
  ·rw [if_neg hk]
 ·rw [if_neg ha]
theorem setOkR_size {s : ByteArray} (h : setOkR s = true) : s.size ≤ 12:=by
 unfold setOkR at h
 rw [Bool.and_eq_true] at h
 exact lenOk_le h.2
theorem setOfR_size (s : ByteArray) : (setOfR s).1.size ≤ 12:=by
 by_cases h : (setOfR s).2 = true
 ·exact setOkR_size (setOfR_ok h).1
 ·rw [setOfR_no h];decide
def sets10 : List ByteArray:=[(⟨#[97]⟩ : ByteArray),(⟨#[97,98]⟩ : ByteArray),(⟨#[97,45,99]⟩ : ByteArray),(⟨#[48,45,57]⟩ : ByteArray),(⟨#[97,45,122]⟩ : ByteArray),(⟨#[98,45,100,120]⟩ : ByteArray),(⟨#[48,57]⟩ : ByteArray),(⟨#[97,45,122,48,45,57]⟩ : ByteArray),(⟨#[97,99,101,103,105,107,109,111,113,115,117,119]⟩ : ByteArray),(⟨#[53,45,53]⟩ : ByteArray)]
theorem sets10_ok : ∀ a ∈ sets10,setOkR a = true ∧ inR a (bt a 0) = true ∧ a.size ≤ 12:=by
 unfold sets10
 intro a h
 simp only [List.mem_cons,List.not_mem_nil,or_false] at h
 rcases h with rfl | rfl | rfl | rfl | rfl | rfl | rfl | rfl | rfl | rfl <;> decide +kernel
theorem l05Set_is (b : List Int) (i h : Int) (hi : At b i) : ∃ r i' h',spec_l05Set.f b i h = some (r,i',h') ∧ r ∈ sets10 ∧ At b i':=by
 obtain ⟨r,i',h',e,hr,ha⟩:=l01Pick_is b i h hi sets10 (by simp [sets10])
 refine ⟨r,i',h',?_,hr,ha⟩
 unfold spec_l05Set.f
 show ((spec_l01Pick.f b i h sets10).bind _ : Option _) = _
 rw [e,Option.bind_some]
theorem drawSets_is (b : List Int) (hb : b.length ≤ 140737488351232) (k : Nat) (hk : 4001 ≤ k) : ∃ x y,spec_DrawSets.f k b = some (x,y) ∧ x ∈ sets10 ∧ y ∈ sets10:=by
 unfold spec_DrawSets.f
 obtain ⟨h,e⟩:=l01New_is b hb k hk
 obtain ⟨x,j1,h1,e1,hx,a1⟩:=l05Set_is b 0 h ⟨hb,by omega,by omega⟩
 obtain ⟨y,j2,h2,e2,hy,a2⟩:=l05Set_is b j1 h1 a1
 refine ⟨x,y,?_,hx,hy⟩
 rw [e,Option.bind_some]
 show ((spec_l05Set.f b 0 h).bind _ : Option _) = _
 rw [e1,Option.bind_some]
 show ((spec_l05Set.f b j1 h1).bind _ : Option _) = _
 rw [e2,Option.bind_some]
theorem l05Any_is (b : List Int) (i h : Int) (hi : At b i) : ∃ r i' h',spec_l05Any.f b i h = some (r,i',h') ∧ r.size ≤ 13 ∧ At b i':=by
 unfold spec_l05Any.f
 obtain ⟨x,j1,h1,e1,_,a1⟩:=l01Below_is b i h hi 3 om_
 have e1' : spec_l01Once.f b i h 3 = some (x == 0,j1,h1):=by unfold spec_l01Once.f;rw [e1,Option.bind_some]
 rw [e1',Option.bind_some]
 cases hx : (x == 0) with
 | true =>
  rw [if_pos rfl]
  obtain ⟨p,j2,h2,e2,hp,a2⟩:=l01Pick_is b j1 h1 a1 [(⟨#[]⟩ : ByteArray),(⟨#[45]⟩ : ByteArray),(⟨#[97,45]⟩ : ByteArray),(⟨#[45,97]⟩ : ByteArray),(⟨#[99,45,97]⟩ : ByteArray),(⟨#[65]⟩ : ByteArray),(⟨#[48,45,122]⟩ : ByteArray),(⟨#[97,45,98,45,99]⟩ : ByteArray),(⟨#[97,98,99,100,101,102,103,104,105,106,107,108]⟩ : ByteArray),(⟨#[97,98,99,100,101,102,103,104,105,106,107,108,109]⟩ : ByteArray),(⟨#[97,45,45,98]⟩ : ByteArray)] (by simp)
  show ∃ r i' h',((spec_l01Pick.f b j1 h1 [(⟨#[]⟩ : ByteArray),(⟨#[45]⟩ : ByteArray),(⟨#[97,45]⟩ : ByteArray),(⟨#[45,97]⟩ : ByteArray),(⟨#[99,45,97]⟩ : ByteArray),(⟨#[65]⟩ : ByteArray),(⟨#[48,45,122]⟩ : ByteArray),(⟨#[97,45,98,45,99]⟩ : ByteArray),(⟨#[97,98,99,100,101,102,103,104,105,106,107,108]⟩ : ByteArray),(⟨#[97,98,99,100,101,102,103,104,105,106,107,108,109]⟩ : ByteArray),(⟨#[97,45,45,98]⟩ : ByteArray)]).bind _ : Option _) = _ ∧ _
  rw [e2,Option.bind_some]
  refine ⟨_,_,_,rfl,?_,a2⟩
  show p.size ≤ 13
  simp only [List.mem_cons,List.not_mem_nil,or_false] at hp
  rcases hp with rfl | rfl | rfl | rfl | rfl | rfl | rfl | rfl | rfl | rfl | rfl <;> decide
 | false =>
  rw [if_neg (by simp)]
  obtain ⟨p,j2,h2,e2,hp,a2⟩:=l05Set_is b j1 h1 a1
  show ∃ r i' h',((spec_l05Set.f b j1 h1).bind _ : Option _) = _ ∧ _
  rw [e2,Option.bind_some]
  refine ⟨_,_,_,rfl,?_,a2⟩
  have:=(sets10_ok p hp).2.2
  show p.size ≤ 13
  omega
theorem implSetOk_is (s : ByteArray) (hs : s.size ≤ 1048576) (k : Nat) (hk : 40 * s.size + 40 ≤ k) : impl_SetOk.f k s = some (setOkR s):=by
 unfold impl_SetOk.f setOkR
 rw [readSet_is s hs k hk]
 cases rowsOf s <;> rfl
theorem rd_drop (L : List Int) (i n : Nat) : rd L ((i + n : Nat) : Int) = (L.drop i).getD n 0:=by
 unfold rd
 rw [Int.toNat_natCast,List.getD_eq_getElem?_getD,List.getD_eq_getElem?_getD,List.getElem?_drop]
theorem take_drop_take (L : List Int) (i n : Nat) : (L.take (i + n)).drop i = (L.drop i).take n:=by
 rw [List.drop_take,Nat.add_sub_cancel_left]
theorem implSetOf_l1 (L acc : List Int) (i : Nat) (x : Int) (R : List Int) (hL : L.drop i = x :: R) (hr : ∀ y ∈ L,0 ≤ y ∧ y ≤ 255) (hlen : L.length ≤ 1048576) (hacc : acc.length ≤ i) (d : Nat) : ∀ (k n : Nat),1 ≤ n → n + d = rl (x :: R) →
  impl_SetOf.l1 (k + d + 1) L acc (i : Int) (n : Int) = impl_SetOf.l0 k L (acc ++ piece x (rl (x :: R))) ((i + rl (x :: R) : Nat) : Int):=by
 have hle:=rl_le (x :: R)
 have hl : L.length = i + (x :: R).length:=by
  have:=congrArg List.length hL
  rw [List.length_drop] at this
  simp only [List.length_cons] at this ⊢
  omega
 have hx : rd L (i : Int) = x:=by
  have:=rd_drop L i 0
  rw [hL] at this
  exact this
 have hxr : 0 ≤ x ∧ x ≤ 255:=hr x (List.mem_of_mem_drop (by rw [hL];simp))
 have w1 : ∀ n : Nat,n ≤ 1048577 → wrap64 ((i : Int) + (n : Int)) = ((i + n : Nat) : Int):=fun n hn => by rw [w64 om_ om_];omega
 have hpl:=piece_length x (rl (x :: R))
 have hst:=rl_at x R
 have hen:=rl_end x R
 have htk:=rl_take x R
 generalize hN : rl (x :: R) = N at *
 have htail3 : ∀ (k n : Nat),n = N → 3 ≤ n → (if 0 ≤ wrap64 (wrap64 ((i : Int) + (n : Int)) - 1) then (if wrap64 (wrap64 ((i : Int) + (n : Int)) - 1) < (L.length : Int) then ((some (([rd L (i : Int),45,rd L (wrap64 (wrap64 ((i : Int) + (n : Int)) - 1))] : List Int) : List Int)).bind fun y168 => (if acc.length + y168.length < 140737488355328 then (impl_SetOf.l0 k L (acc ++ y168) (wrap64 ((i : Int) + (n : Int)))) else (none))) else (none)) else (none)) = impl_SetOf.l0 k L (acc ++ piece x N) ((i + N : Nat) : Int):=by
  rintro k n rfl h3
  have e : wrap64 (wrap64 ((i : Int) + (n : Int)) - 1) = ((i + (n - 1) : Nat) : Int):=by rw [w1 n om_,w64 om_ om_];omega
  have hv : rd L ((i + (n - 1) : Nat) : Int) = x + (n : Int) - 1:=by rw [rd_drop,hL,hst (n - 1) om_];omega
  rw [e,if_pos om_,if_pos om_,Option.bind_some,if_pos (by simp only [List.length_cons,List.length_nil];omega),hx,hv,w1 n om_]
  unfold piece
  rw [if_pos h3]
 have htail : ∀ (k n : Nat),n = N → ¬ 3 ≤ n → (if (i : Int) ≤ wrap64 ((i : Int) + (n : Int)) then (if wrap64 ((i : Int) + (n : Int)) ≤ (L.length : Int) then (if acc.length + ((L.take (wrap64 ((i : Int) + (n : Int)) : Int).toNat).drop ((i : Int) : Int).toNat).length < 140737488355328 then (impl_SetOf.l0 k L (acc ++ ((L.take (wrap64 ((i : Int) + (n : Int)) : Int).toNat).drop ((i : Int) : Int).toNat)) (wrap64 ((i : Int) + (n : Int)))) else (none)) else (none)) else (none)) = impl_SetOf.l0 k L (acc ++ piece x N) ((i + N : Nat) : Int):=by
  rintro k n rfl h3
  rw [w1 n om_,if_pos om_,if_pos om_,Int.toNat_natCast,Int.toNat_natCast,take_drop_take,hL,htk,if_pos (by rw [seg_length];omega)]
  unfold piece
  rw [if_neg h3]
 induction d with
 | zero =>
  intro k n h1 hd
  have hn : n = N:=by omega
  rw [impl_SetOf.l1]
  by_cases hlt : n < (x :: R).length
  ·have hne : rd L ((i + n : Nat) : Int) ≠ x + (n : Int):=by
    rw [rd_drop,hL]
    subst hn
    exact hen hlt
   have hyr : 0 ≤ rd L ((i + n : Nat) : Int) ∧ rd L ((i + n : Nat) : Int) ≤ 255:=by
    unfold rd
    rw [Int.toNat_natCast,List.getD_eq_getElem?_getD,List.getElem?_eq_getElem om_,Option.getD_some]
    exact hr _ (List.getElem_mem _)
   rw [if_pos (by rw [w1 n om_];omega),if_pos (by rw [w1 n om_];omega),if_pos om_,if_pos om_,
    if_neg (by rw [w1 n om_,hx,w64 (n:=x) om_ om_,w64 (n:=x + _) om_ om_,w64 om_ om_];exact hne)]
   by_cases h3 : 3 ≤ n
   ·rw [if_pos om_];exact htail3 k n hn h3
   ·rw [if_neg om_];exact htail k n hn h3
  ·rw [if_neg (by rw [w1 n om_];omega)]
   by_cases h3 : 3 ≤ n
   ·rw [if_pos om_,if_pos om_,if_pos om_];exact htail3 k n hn h3
   ·rw [if_neg om_,if_pos om_];exact htail k n hn h3
 | succ d ih =>
  intro k n h1 hd
  have hv : rd L ((i + n : Nat) : Int) = x + (n : Int):=by rw [rd_drop,hL,hst n om_]
  rw [show k + (d + 1) + 1 = (k + d + 1) + 1 from by omega,impl_SetOf.l1,if_pos (by rw [w1 n om_];omega),if_pos (by rw [w1 n om_];omega),if_pos om_,if_pos om_,
   if_pos (by rw [w1 n om_,hx,hv,w64 (n:=x) om_ om_]),show wrap64 ((n : Int) + 1) = ((n + 1 : Nat) : Int) from by rw [w64 om_ om_];omega]
  exact ih k (n + 1) om_ om_
theorem implSetOf_l2 (L out : List Int) (hr : ∀ y ∈ L,0 ≤ y ∧ y ≤ 255) (hlen : L.length ≤ 1048576) (ho : out.length ≤ 1048576) (d : Nat) : ∀ (k j : Nat),L.length - j = d → j ≤ L.length → d + 40 * out.length + 41 ≤ k →
  impl_SetOf.l2 k out L (L.length : Int) (j : Int) = some (if (L.drop j).all sb = true then fin (strOfNums out) else (⟨#[]⟩,false)):=by
 induction d with
 | zero =>
  intro k j hd hj hk
  obtain ⟨k,rfl⟩ : ∃ k',k = k' + 1:=⟨k - 1,by omega⟩
  rw [impl_SetOf.l2,if_neg om_,implSetOk_is _ (by rw [str_size];omega) _ (by rw [str_size];omega),Option.bind_some,List.drop_eq_nil_of_le om_,if_pos (show ([] : List Int).all sb = true from rfl)]
  unfold fin
  split <;> rfl
 | succ d ih =>
  intro k j hd hj hk
  obtain ⟨k,rfl⟩ : ∃ k',k = k' + 1:=⟨k - 1,by omega⟩
  have hj2 : j < L.length:=by omega
  have e : L.drop j = rd L (j : Int) :: L.drop (j + 1):=by
   rw [List.drop_eq_getElem_cons hj2]
   unfold rd
   rw [Int.toNat_natCast,List.getD_eq_getElem?_getD,List.getElem?_eq_getElem hj2,Option.getD_some]
  have hm : rd L (j : Int) ∈ L:=List.mem_of_mem_drop (i:=j) (by rw [e];simp)
  have hm2:=hr _ hm
  rw [impl_SetOf.l2,if_pos om_,if_pos om_,if_pos om_,isSetByte_b _ hm2.1 hm2.2,Option.bind_some,e,List.all_cons]
  by_cases hb : sb (rd L (j : Int)) = true
  ·rw [if_pos hb,hb,Bool.true_and,show wrap64 ((j : Int) + 1) = ((j + 1 : Nat) : Int) from by rw [w64 om_ om_];omega]
   exact ih k (j + 1) om_ om_ om_
  ·rw [if_neg hb]
   rw [Bool.not_eq_true] at hb
   rw [hb];rfl
theorem implSetOf_l0 (L : List Int) (hr : ∀ y ∈ L,0 ≤ y ∧ y ≤ 255) (hlen : L.length ≤ 1048576) (d : Nat) : ∀ (k i : Nat) (acc : List Int),L.length - i ≤ d → i ≤ L.length → acc.length ≤ i → 3 * (L.length - i) + 41 * L.length + 42 ≤ k →
  impl_SetOf.l0 k L acc (i : Int) = some (if L.all sb = true then fin (strOfNums (acc ++ encL (L.length - i) (L.drop i))) else (⟨#[]⟩,false)):=by
 induction d with
 | zero =>
  intro k i acc hd hi ha hk
  obtain ⟨k,rfl⟩ : ∃ k',k = k' + 1:=⟨k - 1,by omega⟩
  rw [impl_SetOf.l0,if_neg om_,List.drop_eq_nil_of_le om_,encL_nil,List.append_nil]
  have:=implSetOf_l2 L acc hr hlen om_ L.length k 0 rfl om_ om_
  rw [List.drop_zero] at this
  exact this
 | succ d ih =>
  intro k i acc hd hi ha hk
  by_cases hlt : i < L.length
  ·cases hD : L.drop i with
   | nil => have:=congrArg List.length hD;rw [List.length_drop] at this;simp at this;omega
   | cons x R =>
    have hp:=rl_pos x R
    have hle:=rl_le (x :: R)
    have hl : L.length - i = (x :: R).length:=by rw [← hD,List.length_drop]
    obtain ⟨k,rfl⟩ : ∃ k',k = (k' + (rl (x :: R) - 1) + 1) + 1:=⟨k - (rl (x :: R) - 1) - 2,by omega⟩
    have h1:=implSetOf_l1 L acc i x R hD hr hlen ha (rl (x :: R) - 1) k 1 (Nat.le_refl _) om_
    rw [impl_SetOf.l0,if_pos om_]
    rw [show ((1 : Nat) : Int) = 1 from rfl] at h1
    have hpl:=piece_length x (rl (x :: R))
    rw [h1,ih k (i + rl (x :: R)) _ om_ om_ (by rw [List.length_append];omega) om_,encL_cons _ x R om_,List.append_assoc,← List.drop_drop,hD,encL_fuel (L.length - (i + rl (x :: R))) (L.length - i) _ (by rw [List.length_drop];omega) (by rw [List.length_drop];omega)]
  ·exact (by
    obtain ⟨k,rfl⟩ : ∃ k',k = k' + 1:=⟨k - 1,by omega⟩
    rw [impl_SetOf.l0,if_neg om_,List.drop_eq_nil_of_le om_,encL_nil,List.append_nil]
    have:=implSetOf_l2 L acc hr hlen om_ L.length k 0 rfl om_ om_
    rw [List.drop_zero] at this
    exact this)
theorem implSetOf_is (s : ByteArray) (hs : s.size ≤ 1048576) (k : Nat) (hk : 44 * s.size + 42 ≤ k) : impl_SetOf.f k s = some (setOfR s):=by
 unfold impl_SetOf.f impl_SetOf.f0 setOfR
 rw [if_pos om_]
 have hL : (Srt.dd (Srt.msort (bs s))).length ≤ s.size:=by
  have:=dd_len (Srt.msort (bs s))
  rw [Srt.msort_length,bs_length] at this
  exact this
 have h:=implSetOf_l0 (Srt.dd (Srt.msort (bs s))) (fun y hy => bs_range ((mem_ddms _ y).1 hy)) om_ (Srt.dd (Srt.msort (bs s))).length k 0 [] om_ om_ (by simp) om_
 rw [List.drop_zero,List.nil_append,Nat.sub_zero,all_ddms] at h
 exact h
theorem specSetOk_is (s : ByteArray) (hs : s.size ≤ 1048576) (k : Nat) (hk : 2 * s.size + 1 ≤ k) : spec_SetOk.f k s = some (setOkR s):=by
 unfold spec_SetOk.f setOkR
 rw [l05Rows_is s hs k hk]
 cases rowsOf s <;> rfl
def Tab (T : List Bool) (S : Int → Prop) : Prop:=T.length = 257 ∧ ∀ b : Nat,b < 257 → (T.getD b false = true ↔ S (b : Int))
theorem Tab.rd {T : List Bool} {S : Int → Prop} (h : Tab T S) (b : Int) (h0 : 0 ≤ b) (h1 : b < 257) : (rdOf false T b = true) = S b:=by
 unfold rdOf
 have:=h.2 b.toNat om_
 rw [Int.toNat_of_nonneg h0] at this
 exact propext this
theorem Tab.set {T : List Bool} {S : Int → Prop} (h : Tab T S) (c : Int) (h0 : 0 ≤ c) (h1 : c < 257) : Tab (T.set c.toNat true) (fun b => S b ∨ b = c):=by
 refine ⟨by rw [List.length_set];exact h.1,fun b hb => ?_⟩
 have:=h.2 b hb
 rw [List.getD_eq_getElem?_getD] at this ⊢
 by_cases hc : c.toNat = b
 ·rw [hc,List.getElem?_set_self (by rw [h.1];exact hb)]
  exact ⟨fun _ => Or.inr om_,fun _ => rfl⟩
 ·rw [List.getElem?_set_ne hc,this]
  exact ⟨Or.inl,fun h => h.elim id (fun h => absurd h om_)⟩
theorem Tab.congr {T : List Bool} {S S' : Int → Prop} (h : Tab T S) (e : ∀ b,S b ↔ S' b) : Tab T S':=⟨h.1,fun b hb => (h.2 b hb).trans (e _)⟩
theorem Tab.zero : Tab (List.replicate 257 false) (fun _ => False):=by
 refine ⟨List.length_replicate,fun b hb => ?_⟩
 rw [List.getD_eq_getElem?_getD,List.getElem?_replicate,if_pos hb]
 simp
theorem specSetOf_l0 (s : ByteArray) (hs : s.size ≤ 1048576) (d : Nat) : ∀ (k i : Nat) (T : List Bool),s.size - i = d → i ≤ s.size → Tab T (fun b => b ∈ (bs s).take i) →
  (((bs s).drop i).all sb = false → spec_SetOf.l0 (k + d + 1) s T (i : Int) = some (⟨#[]⟩,false)) ∧
  (((bs s).drop i).all sb = true → ∃ T',Tab T' (fun b => b ∈ bs s) ∧ spec_SetOf.l0 (k + d + 1) s T (i : Int) = spec_SetOf.l1 k T' ⟨#[]⟩ 0):=by
 induction d with
 | zero =>
  intro k i T hd hi hT
  rw [bs_drop_nil s i om_]
  refine ⟨fun h => by simp at h,fun _ => ⟨T,?_,?_⟩⟩
  ·rw [List.take_of_length_le (by rw [bs_length];omega)] at hT
   exact hT
  ·rw [spec_SetOf.l0,if_neg om_]
 | succ d ih =>
  intro k i T hd hi hT
  have hr:=bt_range s (i : Int)
  rw [bs_drop s i om_,List.all_cons,show k + (d + 1) + 1 = (k + d + 1) + 1 from by omega,spec_SetOf.l0,if_pos om_,if_pos om_,l05Byte_is,Option.bind_some]
  by_cases hb : sb (bt s (i : Int)) = true
  ·rw [hb,Bool.true_and,if_pos rfl,if_pos hr.1,if_pos (by rw [hT.1];omega),show wrap64 ((i : Int) + 1) = ((i + 1 : Nat) : Int) from by rw [w64 om_ om_];omega]
   refine ih k (i + 1) _ om_ om_ ((hT.set _ hr.1 om_).congr fun b => ?_)
   rw [List.take_add_one,bs_get s i om_,List.mem_append]
   simp
  ·rw [if_neg hb]
   rw [Bool.not_eq_true] at hb
   rw [hb,Bool.false_and]
   exact ⟨fun _ => rfl,fun h => by cases h⟩
theorem specSetOf_l3 (T : List Bool) (e : Int) (he : e ≤ 255) (m : Nat) : ∀ (k : Nat) (acc : List Int) (y : Int),(e + 1 - y).toNat = m → 0 ≤ y → acc.length ≤ 1000000000 → m ≤ 256 →
  spec_SetOf.l3 (k + m + 1) T (strOfNums acc) e y = spec_SetOf.l1 k T (strOfNums (acc ++ seg y e)) (wrap64 (e + 1)):=by
 induction m with
 | zero =>
  intro k acc y hm hy ha h5
  rw [spec_SetOf.l3,if_neg om_,seg_nil y e om_,List.append_nil]
 | succ m ih =>
  intro k acc y hm hy ha h5
  rw [show k + (m + 1) + 1 = (k + m + 1) + 1 from by omega,spec_SetOf.l3,if_pos om_,Option.bind_some,if_pos (by rw [str_size,str_size];simp only [List.length_cons,List.length_nil];omega),← str_append,Int.emod_eq_of_lt om_ om_,show wrap64 (y + 1) = y + 1 from w64 om_ om_]
  by_cases hbig : acc.length + 1 ≤ 1000000000
  ·rw [ih k (acc ++ [y]) (y + 1) om_ om_ lo_ om_,seg_cons y e om_,List.append_assoc];rfl
  ·
   have : ∀ (m : Nat) (acc : List Int) (y : Int),(e + 1 - y).toNat = m → 0 ≤ y → acc.length ≤ 1000000000 + 300 - m → m ≤ 256 → spec_SetOf.l3 (k + m + 1) T (strOfNums acc) e y = spec_SetOf.l1 k T (strOfNums (acc ++ seg y e)) (wrap64 (e + 1)):=by
    intro m
    induction m with
    | zero =>
     intro acc y hm hy ha h5
     rw [spec_SetOf.l3,if_neg om_,seg_nil y e om_,List.append_nil]
    | succ m ih =>
     intro acc y hm hy ha h5
     rw [show k + (m + 1) + 1 = (k + m + 1) + 1 from by omega,spec_SetOf.l3,if_pos om_,Option.bind_some,if_pos (by rw [str_size,str_size];simp only [List.length_cons,List.length_nil];omega),← str_append,Int.emod_eq_of_lt om_ om_,show wrap64 (y + 1) = y + 1 from w64 om_ om_,
      ih (acc ++ [y]) (y + 1) om_ om_ lo_ om_,seg_cons y e om_,List.append_assoc];rfl
   rw [this m (acc ++ [y]) (y + 1) om_ om_ lo_ om_,seg_cons y e om_,List.append_assoc];rfl
theorem specSetOf_l2 (T : List Bool) (L : List Int) (hT : Tab T (fun b => b ∈ L)) (b : Int) (R : List Int) (h0 : 0 ≤ b) (hb : b + (rl (b :: R) : Int) ≤ 256) (hasc : (b :: R).Pairwise (· < ·)) (hmem : ∀ x,b ≤ x → (x ∈ L ↔ x ∈ b :: R)) (acc : List Int) (hacc : acc.length ≤ 1000000) (d : Nat) : ∀ (k n : Nat),1 ≤ n → n + d = rl (b :: R) →
  ∃ k',k ≤ k' ∧ spec_SetOf.l2 (k + d + 5) T (strOfNums acc) b (b + (n : Int) - 1) = spec_SetOf.l1 k' T (strOfNums (acc ++ piece b (rl (b :: R)))) (b + (rl (b :: R) : Int)):=by
 induction d with
 | zero =>
  intro k n h1 hd
  have hn : n = rl (b :: R):=by omega
  have e : wrap64 (b + (n : Int) - 1 + 1) = b + (n : Int):=by rw [w64 om_ om_];omega
  have hno : ¬ rdOf false T (b + (n : Int)) = true:=by
   rw [hT.rd _ om_ om_,hmem _ om_,rl_mem b R n hasc h1 om_]
   omega
  rw [show k + 0 + 5 = (k + 4) + 1 from rfl,spec_SetOf.l2,e,if_pos om_,if_pos (by rw [hT.1];omega),if_neg hno,w64 (n:=b + (n : Int) - 1 - b) om_ om_,← hn]
  by_cases h3 : 3 ≤ n
  ·refine ⟨k + 4,by omega,?_⟩
   rw [if_pos om_,Option.bind_some,if_pos (by rw [str_size,str_size];simp only [List.length_cons,List.length_nil];omega),← str_append,Int.emod_eq_of_lt om_ om_,Int.emod_eq_of_lt om_ om_]
   unfold piece
   rw [if_pos h3]
  ·rw [if_neg om_]
   have h:=specSetOf_l3 T (b + (n : Int) - 1) om_ n (k + 3 - n) acc b om_ h0 om_ om_
   rw [show k + 3 - n + n + 1 = k + 4 from by omega,e] at h
   refine ⟨k + 3 - n,by omega,?_⟩
   rw [h]
   unfold piece
   rw [if_neg h3]
 | succ d ih =>
  intro k n h1 hd
  have e : wrap64 (b + (n : Int) - 1 + 1) = b + (n : Int):=by rw [w64 om_ om_];omega
  have hyes : rdOf false T (b + (n : Int)) = true:=by
   rw [hT.rd _ om_ om_,hmem _ om_,rl_mem b R n hasc h1 om_]
   omega
  obtain ⟨k',hk',h⟩:=ih k (n + 1) om_ om_
  refine ⟨k',hk',?_⟩
  rw [show k + (d + 1) + 5 = (k + d + 5) + 1 from by omega,spec_SetOf.l2,e,if_pos om_,if_pos (by rw [hT.1];omega),if_pos hyes,← h]
  congr 1
  omega
theorem specSetOf_l1 (T : List Bool) (L : List Int) (hT : Tab T (fun b => b ∈ L)) (hL : ∀ x ∈ L,sb x = true) (d : Nat) : ∀ (k b : Nat) (l acc : List Int),256 - b ≤ d → b ≤ 256 → l.Pairwise (· < ·) → (∀ x,x ∈ l ↔ x ∈ L ∧ (b : Int) ≤ x) → acc.length ≤ b → 10 * (256 - b) + 1600 ≤ k →
  spec_SetOf.l1 k T (strOfNums acc) (b : Int) = some (fin (strOfNums (acc ++ encL l.length l))):=by
 induction d with
 | zero =>
  intro k b l acc hd hb ha hm hac hk
  obtain ⟨k,rfl⟩ : ∃ k',k = k' + 1:=⟨k - 1,by omega⟩
  have hl : l = []:=by
   cases l with
   | nil => rfl
   | cons x l =>
    have h:=(hm x).1 (by simp)
    have:=sb_range (hL x h.1)
    omega
  subst hl
  rw [spec_SetOf.l1,if_neg om_,specSetOk_is _ (by rw [str_size];omega) _ (by rw [str_size];omega),Option.bind_some,encL_nil,List.append_nil]
  unfold fin
  split <;> rfl
 | succ d ih =>
  intro k b l acc hd hb ha hm hac hk
  obtain ⟨k,rfl⟩ : ∃ k',k = k' + 1:=⟨k - 1,by omega⟩
  by_cases h256 : b < 256
  ·rw [spec_SetOf.l1,if_pos om_,if_pos om_,if_pos (by rw [hT.1];omega)]
   by_cases hin : (b : Int) ∈ L
   ·rw [if_pos (show rdOf false T (b : Int) = true from (hT.rd (b : Int) om_ om_).symm ▸ hin)]
    have hbl : (b : Int) ∈ l:=(hm _).2 ⟨hin,Int.le_refl _⟩
    obtain ⟨R,rfl⟩ : ∃ R,l = (b : Int) :: R:=by
     cases l with
     | nil => cases hbl
     | cons x l =>
      rw [List.mem_cons] at hbl
      rcases hbl with h | h
      ·exact ⟨l,by rw [h]⟩
      ·have h1:=(List.pairwise_cons.1 ha).1 _ h
       have h2:=((hm x).1 (by simp)).2
       omega
    have hr0 : ∀ y ∈ (b : Int) :: R,0 ≤ y ∧ y ≤ 255:=fun y hy => sb_range (hL y ((hm y).1 hy).1)
    have hbd:=rl_bound hr0
    have hp:=rl_pos (b : Int) R
    have hle:=rl_le ((b : Int) :: R)
    obtain ⟨k',hk',h⟩:=specSetOf_l2 T L hT (b : Int) R om_ hbd ha (fun x hx => ⟨fun h => (hm x).2 ⟨h,hx⟩,fun h => ((hm x).1 h).1⟩) acc om_ (rl ((b : Int) :: R) - 1) (k - (rl ((b : Int) :: R) - 1) - 5) 1 (Nat.le_refl _) om_
    rw [show k - (rl ((b : Int) :: R) - 1) - 5 + (rl ((b : Int) :: R) - 1) + 5 = k from by omega,show (b : Int) + ((1 : Nat) : Int) - 1 = (b : Int) from by omega] at h
    rw [h,show (b : Int) + (rl ((b : Int) :: R) : Int) = ((b + rl ((b : Int) :: R) : Nat) : Int) from by omega]
    have hpl:=piece_length (b : Int) (rl ((b : Int) :: R))
    rw [ih k' (b + rl ((b : Int) :: R)) (((b : Int) :: R).drop (rl ((b : Int) :: R))) _ om_ om_ (ha.sublist (List.drop_sublist _ _)) ?_ (by rw [List.length_append];omega) om_,encL_cons _ _ R (Nat.le_refl _),List.append_assoc,
     encL_fuel (((b : Int) :: R).drop (rl ((b : Int) :: R))).length ((b : Int) :: R).length _ (Nat.le_refl _) (by rw [List.length_drop];omega)]
    intro x
    have htd : ((b : Int) :: R).take (rl ((b : Int) :: R)) ++ ((b : Int) :: R).drop (rl ((b : Int) :: R)) = (b : Int) :: R:=List.take_append_drop _ _
    rw [rl_take] at htd
    have hpw:=ha
    rw [← htd,List.pairwise_append] at hpw
    constructor
    ·intro hx
     have h1:=(hm x).1 (List.mem_of_mem_drop hx)
     have h2:=hpw.2.2 ((b : Int) + (rl ((b : Int) :: R) : Int) - 1) ((mem_seg _ _ _).2 ⟨by omega,by omega⟩) x hx
     exact ⟨h1.1,by omega⟩
    ·rintro ⟨h1,h2⟩
     have h3:=(hm x).2 ⟨h1,by omega⟩
     rw [← htd,List.mem_append,mem_seg] at h3
     rcases h3 with h3 | h3
     ·omega
     ·exact h3
   ·rw [if_neg (show ¬ rdOf false T (b : Int) = true from (hT.rd (b : Int) om_ om_).symm ▸ hin),show wrap64 ((b : Int) + 1) = ((b + 1 : Nat) : Int) from by rw [w64 om_ om_];omega]
    refine ih k (b + 1) l acc om_ om_ ha (fun x => ?_) om_ om_
    rw [hm x]
    constructor
    ·rintro ⟨h1,h2⟩
     refine ⟨h1,?_⟩
     have : x ≠ (b : Int):=fun e => hin (e ▸ h1)
     omega
    ·rintro ⟨h1,h2⟩;exact ⟨h1,by omega⟩
  ·exact (by
    have hl : l = []:=by
     cases l with
     | nil => rfl
     | cons x l =>
      have h:=(hm x).1 (by simp)
      have:=sb_range (hL x h.1)
      omega
    subst hl
    rw [spec_SetOf.l1,if_neg om_,specSetOk_is _ (by rw [str_size];omega) _ (by rw [str_size];omega),Option.bind_some,encL_nil,List.append_nil]
    unfold fin
    split <;> rfl)
theorem specSetOf_is (s : ByteArray) (hs : s.size ≤ 1048576) (k : Nat) (hk : s.size + 4200 ≤ k) : spec_SetOf.f k s = some (setOfR s):=by
 unfold spec_SetOf.f setOfR
 rw [if_pos om_]
 obtain ⟨k,rfl⟩ : ∃ k',k = k' + s.size + 1:=⟨k - s.size - 1,by omega⟩
 obtain ⟨h1,h2⟩:=specSetOf_l0 s hs s.size k 0 (List.replicate 257 false) rfl (Nat.zero_le _) (Tab.zero.congr fun b => by simp)
 rw [List.drop_zero] at h1 h2
 by_cases ha : (bs s).all sb = true
 ·rw [if_pos ha]
  obtain ⟨T',hT,h⟩:=h2 ha
  have ha':=List.all_eq_true.1 ha
  have h3:=specSetOf_l1 T' (bs s) hT ha' 256 k 0 (Srt.dd (Srt.msort (bs s))) [] om_ om_ (ddms_asc _) (fun x => by
   rw [mem_ddms]
   exact ⟨fun hx => ⟨hx,by have:=bs_range hx;omega⟩,fun hx => hx.1⟩) (by simp) om_
  rw [List.nil_append] at h3
  rw [show (0 : Int) = ((0 : Nat) : Int) from rfl]
  refine h.trans ?_
  exact h3
 ·rw [if_neg ha]
  rw [Bool.not_eq_true] at ha
  exact h1 ha
theorem specInSet_l0 (b : Int) (x : List Int) (hx : ∀ y ∈ x,0 ≤ y ∧ y ≤ 255) (hl : x.length ≤ 3000000) (rs : List (Int × Int)) : ∀ (k : Nat) (pre : List Int),x = pre ++ encR rs → 2 * rs.length + 2 ≤ k →
  spec_InSet.l0 k b (strOfNums x) true (pre.length : Int) = some (rs.any fun p => decide (p.1 ≤ b ∧ b ≤ p.2)):=by
 induction rs with
 | nil =>
  intro k pre he hk
  obtain ⟨k,rfl⟩ : ∃ k',k = k' + 2:=⟨k - 2,by omega⟩
  have hxl : x.length = pre.length:=by rw [he];simp [encR]
  rw [spec_InSet.l0,str_size,w64 om_ om_,if_neg om_,spec_InSet.j1,if_neg (by simp)]
  rfl
 | cons p rs ih =>
  intro k pre he hk
  simp only [List.length_cons] at hk
  obtain ⟨k,rfl⟩ : ∃ k',k = k' + 2:=⟨k - 2,by omega⟩
  have hxl : x.length = pre.length + 2 + 2 * rs.length:=by rw [he,List.length_append,encR_cons,List.length_append,encR_length];simp only [List.length_cons,List.length_nil];omega
  have b1 : bt (strOfNums x) (pre.length : Int) = p.1:=by
   rw [bt_str hx _ om_]
   unfold rd
   rw [Int.toNat_natCast,he,encR_cons,List.getD_eq_getElem?_getD,List.getElem?_append_right (Nat.le_refl _),Nat.sub_self]
   rfl
  have b2 : bt (strOfNums x) ((pre.length + 1 : Nat) : Int) = p.2:=by
   rw [bt_str hx _ om_]
   unfold rd
   rw [Int.toNat_natCast,he,encR_cons,List.getD_eq_getElem?_getD,List.getElem?_append_right om_,show pre.length + 1 - pre.length = 1 from by omega]
   rfl
  have hn:=ih k (pre ++ [p.1,p.2]) (by rw [he,encR_cons,List.append_assoc]) om_
  simp only [List.length_append,List.length_cons,List.length_nil] at hn
  rw [spec_InSet.l0,str_size,w64_n1 pre.length om_,if_pos om_,spec_InSet.j1,if_pos rfl,if_pos om_,str_size,if_pos om_,b1,w64_n1 pre.length om_,b2,w64_n2 pre.length om_,List.any_cons]
  by_cases h1 : b ≥ p.1
  ·rw [if_pos h1,if_pos om_,if_pos om_]
   by_cases h2 : b ≤ p.2
   ·rw [if_pos h2,decide_eq_true (show p.1 ≤ b ∧ b ≤ p.2 from ⟨h1,h2⟩)];rfl
   ·rw [if_neg h2,decide_eq_false (show ¬ (p.1 ≤ b ∧ b ≤ p.2) from fun h => h2 h.2)]
    exact hn
  ·rw [if_neg h1,decide_eq_false (show ¬ (p.1 ≤ b ∧ b ≤ p.2) from fun h => h1 h.1)]
   exact hn
theorem specInSet_is (s : ByteArray) (hs : s.size ≤ 1048576) (b : Int) (k : Nat) (hk : 2 * s.size + 30 ≤ k) : spec_InSet.f k s b = some (inR s b):=by
 unfold spec_InSet.f inR
 rw [l05Rows_is s hs k om_]
 have hoff : ∀ x : ByteArray,spec_InSet.l0 k b x false 0 = some false:=fun x => by
  obtain ⟨k,rfl⟩ : ∃ k',k = k' + 2:=⟨k - 2,by omega⟩
  rw [spec_InSet.l0]
  split <;> rw [spec_InSet.j1,if_neg (by simp)]
 cases hr : rowsOf s with
 | none => exact hoff _
 | some rs =>
  show spec_InSet.l0 k b (strOfNums (encR rs)) (lenOk s) 0 = some (lenOk s && _)
  cases hl : lenOk s with
  | false => rw [hoff,Bool.false_and]
  | true =>
   have hg:=rowsOf_good hr
   have hle:=lenOk_le hl
   have:=specInSet_l0 b (encR rs) (encR_range rs hg.2) (by rw [encR_length];omega) rs k [] rfl om_
   rw [Bool.true_and]
   exact this
theorem implSetBytes_is (s : ByteArray) (hs : s.size ≤ 1048576) (k : Nat) (hk : 40 * s.size + 40 ≤ k) : impl_SetBytes.f k s = some (strOfNums (allL s)):=by
 unfold impl_SetBytes.f allL
 rw [readSet_is s hs k hk]
 cases rowsOf s with
 | none => rfl
 | some rs =>
  show (if lenOk s = true then _ else _) = some (strOfNums (if lenOk s = true then _ else _))
  by_cases h : lenOk s = true
  ·rw [if_pos h,if_pos h]
  ·rw [if_neg h,if_neg h];rfl
theorem specSetBytes_l0 (s : ByteArray) (hs : s.size ≤ 1048576) (d : Nat) : ∀ (k i : Nat) (acc : List Int),256 - i ≤ d → 2 * s.size + 31 + d ≤ k → i ≤ 256 → acc.length ≤ i →
  spec_SetBytes.l0 k s (strOfNums acc) (i : Int) = some (strOfNums (acc ++ (seg (i : Int) 255).filter (inR s))):=by
 induction d with
 | zero =>
  intro k i acc hd hk hi ha
  obtain ⟨k,rfl⟩ : ∃ k',k = k' + 1:=⟨k - 1,by omega⟩
  rw [spec_SetBytes.l0,if_neg om_,seg_nil _ _ om_]
  simp
 | succ d ih =>
  intro k i acc hd hk hi ha
  obtain ⟨k,rfl⟩ : ∃ k',k = k' + 1:=⟨k - 1,by omega⟩
  by_cases h : i < 256
  ·rw [spec_SetBytes.l0,if_pos om_,Int.emod_eq_of_lt om_ om_,specInSet_is s hs _ _ om_,Option.bind_some,w64_n1 i om_,seg_cons _ _ om_,List.filter_cons,show (i : Int) + 1 = ((i + 1 : Nat) : Int) from by omega]
   by_cases hb : inR s (i : Int) = true
   ·rw [if_pos hb,if_pos hb,Option.bind_some,if_pos (by rw [str_size,str_size];simp only [List.length_cons,List.length_nil];omega),← str_append,
     ih k (i + 1) _ om_ om_ om_ lo_,List.append_assoc]
    rfl
   ·rw [if_neg hb,if_neg hb,ih k (i + 1) _ om_ om_ om_ om_]
  ·rw [spec_SetBytes.l0,if_neg om_,seg_nil _ _ om_]
   simp
theorem seg_asc (a b : Int) : (seg a b).Pairwise (· < ·):=by
 unfold seg
 rw [List.pairwise_map]
 exact (List.pairwise_lt_range).imp (fun h => by omega)
theorem filter_inR (s : ByteArray) : (seg 0 255).filter (inR s) = allL s:=by
 refine asc_unique _ _ ((seg_asc 0 255).filter _) (allL_asc s) fun x => ?_
 rw [List.mem_filter,mem_seg,mem_allL]
 exact ⟨fun h => h.2,fun h => ⟨sb_range (inR_sb h),h⟩⟩
theorem specSetBytes_is (s : ByteArray) (hs : s.size ≤ 1048576) (k : Nat) (hk : 2 * s.size + 300 ≤ k) : spec_SetBytes.f k s = some (strOfNums (allL s)):=by
 have h:=specSetBytes_l0 s hs 256 k 0 [] om_ om_ om_ (by simp)
 simp only [List.nil_append] at h
 rw [show ((0 : Nat) : Int) = 0 from rfl,filter_inR] at h
 exact h
def joinR (a b : ByteArray) : ByteArray × Bool:=if (setOkR a && setOkR b) = true then setOfR (strOfNums (allL a) ++ strOfNums (allL b)) else (⟨#[]⟩,false)
theorem specJoinSets_is (a b : ByteArray) (ha : a.size ≤ 1048576) (hb : b.size ≤ 1048576) (k : Nat) (hk : 2 * a.size + 2 * b.size + 5000 ≤ k) : spec_JoinSets.f k a b = some (joinR a b):=by
 unfold spec_JoinSets.f joinR
 have hj : ∀ x : Bool,spec_JoinSets.j0 k a b x = some (if (!x) = true then setOfR (strOfNums (allL a) ++ strOfNums (allL b)) else (⟨#[]⟩,false)):=by
  intro x
  obtain ⟨k,rfl⟩ : ∃ k',k = k' + 1:=⟨k - 1,by omega⟩
  have h1:=allL_length a
  have h2:=allL_length b
  rw [spec_JoinSets.j0]
  cases x with
  | true => rfl
  | false =>
   rw [if_neg (by simp),specSetBytes_is a ha k om_,specSetBytes_is b hb k om_,Option.bind_some,Option.bind_some,if_pos (by rw [str_size,str_size];omega),specSetOf_is _ (by rw [ByteArray.size_append,str_size,str_size];omega) _ (by rw [ByteArray.size_append,str_size,str_size];omega)]
   rfl
 rw [specSetOk_is a ha k om_,Option.bind_some,specSetOk_is b hb k om_]
 cases h1 : setOkR a with
 | true => rw [if_pos rfl,Option.bind_some,hj,Bool.not_not,Bool.true_and]
 | false => rw [if_neg (by simp),hj];rfl
theorem implJoinSets_is (a b : ByteArray) (ha : a.size ≤ 1048576) (hb : b.size ≤ 1048576) (k : Nat) (hk : 40 * a.size + 40 * b.size + 10000 ≤ k) : impl_JoinSets.f k a b = some (joinR a b):=by
 unfold impl_JoinSets.f joinR
 have hj : ∀ x : Bool,impl_JoinSets.j0 k a b x = some (if (!x) = true then setOfR (strOfNums (allL a) ++ strOfNums (allL b)) else (⟨#[]⟩,false)):=by
  intro x
  obtain ⟨k,rfl⟩ : ∃ k',k = k' + 1:=⟨k - 1,by omega⟩
  have h1:=allL_length a
  have h2:=allL_length b
  rw [impl_JoinSets.j0]
  cases x with
  | true => rfl
  | false =>
   rw [if_neg (by simp),implSetBytes_is a ha k om_,implSetBytes_is b hb k om_,Option.bind_some,Option.bind_some,if_pos (by rw [str_size,str_size];omega),implSetOf_is _ (by rw [ByteArray.size_append,str_size,str_size];omega) _ (by rw [ByteArray.size_append,str_size,str_size];omega)]
   rfl
 rw [implSetOk_is a ha k om_,Option.bind_some,implSetOk_is b hb k om_]
 cases h1 : setOkR a with
 | true => rw [if_pos rfl,Option.bind_some,hj,Bool.not_not,Bool.true_and]
 | false => rw [if_neg (by simp),hj];rfl
theorem indexByte_ge (u : UInt8) (l : List UInt8) : Go.Lib.indexByte l u ≥ -1 ∧ (Go.Lib.indexByte l u ≥ 0 ↔ u ∈ l):=by
 induction l with
 | nil =>
  show (-1 : Int) ≥ -1 ∧ ((-1 : Int) ≥ 0 ↔ u ∈ [])
  simp
 | cons b l ih =>
  obtain ⟨i1,i2⟩:=ih
  rw [Go.Lib.indexByte,List.mem_cons]
  by_cases h : (b == u) = true
  ·rw [if_pos h]
   have : u = b:=(eq_of_beq h).symm
   exact ⟨by decide,fun _ => Or.inl this,fun _ => by decide⟩
  ·rw [if_neg h]
   have hne : ¬ u = b:=fun e => h (by rw [e];exact beq_self_eq_true b)
   by_cases h2 : (Go.Lib.indexByte l u == -1) = true
   ·rw [if_pos h2]
    have h2:=eq_of_beq h2
    refine ⟨by decide,fun h => absurd h (by decide),fun h => ?_⟩
    rcases h with h | h
    ·exact absurd h hne
    ·have:=i2.2 h;omega
   ·rw [if_neg h2]
    have h3 : Go.Lib.indexByte l u ≠ -1:=fun e => h2 (by rw [e];rfl)
    exact ⟨by omega,fun _ => Or.inr (i2.1 om_),fun _ => by omega⟩
theorem str_mem (xs : List Int) (h : ∀ x ∈ xs,0 ≤ x ∧ x ≤ 255) (b : Int) (h0 : 0 ≤ b) (h1 : b ≤ 255) : b.toNat.toUInt8 ∈ (strOfNums xs).data.toList ↔ b ∈ xs:=by
 show b.toNat.toUInt8 ∈ (xs.map fun n => UInt8.ofNat n.toNat).toArray.toList ↔ b ∈ xs
 rw [List.toList_toArray,List.mem_map]
 constructor
 ·rintro ⟨x,hx,e⟩
  have hr:=h x hx
  have e2 : x.toNat = b.toNat:=by
   have:=congrArg UInt8.toNat e
   simp only [UInt8.toNat_ofNat'] at this
   have hb : b.toNat.toUInt8.toNat = b.toNat % 256:=rfl
   omega
  have : x = b:=by omega
  rw [← this];exact hx
 ·intro hb
  exact ⟨b,hb,rfl⟩
theorem implInSet_is (s : ByteArray) (hs : s.size ≤ 1048576) (b : Int) (h0 : 0 ≤ b) (h1 : b ≤ 255) (k : Nat) (hk : 40 * s.size + 40 ≤ k) : impl_InSet.f k s b = some (inR s b):=by
 unfold impl_InSet.f
 rw [implSetBytes_is s hs k hk,Option.bind_some,strings_IndexByte.f,Option.bind_some]
 congr 1
 rw [Bool.eq_iff_iff,decide_eq_true_iff,(indexByte_ge _ _).2,str_mem _ (allL_range s) b h0 h1,mem_allL]
def meetR (a b : ByteArray) : ByteArray × Bool:=if (setOkR a && setOkR b) = true then setOfR (strOfNums ((allL a).filter (inR b))) else (⟨#[]⟩,false)
theorem extract_one (xs : List Int) (hx : ∀ y ∈ xs,0 ≤ y ∧ y ≤ 255) (i : Nat) (h : i < xs.length) : (strOfNums xs).extract i (i + 1) = strOfNums [rd xs (i : Int)]:=by
 have hr : 0 ≤ rd xs (i : Int) ∧ rd xs (i : Int) ≤ 255:=by
  unfold rd
  rw [Int.toNat_natCast,List.getD_eq_getElem?_getD,List.getElem?_eq_getElem h,Option.getD_some]
  exact hx _ (List.getElem_mem _)
 refine bs_inj ?_
 rw [bs_extract,bs_str hx,bs_str (by intro y hy;rw [List.mem_singleton] at hy;rw [hy];exact hr),Nat.add_sub_cancel_left,List.drop_eq_getElem_cons h,List.take_succ_cons,List.take_zero]
 unfold rd
 rw [Int.toNat_natCast,List.getD_eq_getElem?_getD,List.getElem?_eq_getElem h,Option.getD_some]
theorem specMeet_l0 (b : ByteArray) (hb : b.size ≤ 1048576) (L : List Int) (hL : ∀ y ∈ L,0 ≤ y ∧ y ≤ 255) (hl : L.length ≤ 100) (d : Nat) : ∀ (k i : Nat) (acc : List Int),L.length - i = d → i ≤ L.length → acc.length ≤ i → d + 2 * b.size + 5000 ≤ k →
  spec_MeetSets.l0 k b (strOfNums acc) (strOfNums L) (i : Int) = some (setOfR (strOfNums (acc ++ (L.drop i).filter (inR b)))):=by
 induction d with
 | zero =>
  intro k i acc hd hi ha hk
  obtain ⟨k,rfl⟩ : ∃ k',k = k' + 1:=⟨k - 1,by omega⟩
  rw [spec_MeetSets.l0,str_size,if_neg om_,specSetOf_is _ (by rw [str_size];omega) _ (by rw [str_size];omega),List.drop_eq_nil_of_le om_,List.filter_nil,List.append_nil]
  rfl
 | succ d ih =>
  intro k i acc hd hi ha hk
  obtain ⟨k,rfl⟩ : ∃ k',k = k' + 1:=⟨k - 1,by omega⟩
  have hlt : i < L.length:=by omega
  have w1 : wrap64 ((i : Int) + 1) = ((i + 1 : Nat) : Int):=by rw [w64 om_ om_];omega
  have e : L.drop i = rd L (i : Int) :: L.drop (i + 1):=by
   rw [List.drop_eq_getElem_cons hlt]
   unfold rd
   rw [Int.toNat_natCast,List.getD_eq_getElem?_getD,List.getElem?_eq_getElem hlt,Option.getD_some]
  rw [spec_MeetSets.l0,str_size,if_pos om_,if_pos om_,bt_str hL i hlt,specInSet_is b hb _ _ om_,Option.bind_some,e,List.filter_cons,w1]
  by_cases hin : inR b (rd L (i : Int)) = true
  ·rw [if_pos hin,if_pos hin,if_pos om_,if_pos om_,Int.toNat_natCast,Int.toNat_natCast,extract_one L hL i hlt,if_pos (by rw [str_size,str_size];simp only [List.length_cons,List.length_nil];omega),← str_append,
    ih k (i + 1) _ om_ om_ lo_ om_,List.append_assoc]
   rfl
  ·rw [if_neg hin,if_neg hin]
   exact ih k (i + 1) _ om_ om_ om_ om_
theorem specMeetSets_is (a b : ByteArray) (ha : a.size ≤ 1048576) (hb : b.size ≤ 1048576) (k : Nat) (hk : 2 * a.size + 2 * b.size + 6000 ≤ k) : spec_MeetSets.f k a b = some (meetR a b):=by
 unfold spec_MeetSets.f meetR
 have hj : ∀ x : Bool,spec_MeetSets.j0 k a b x = some (if (!x) = true then setOfR (strOfNums ((allL a).filter (inR b))) else (⟨#[]⟩,false)):=by
  intro x
  obtain ⟨k,rfl⟩ : ∃ k',k = k' + 1:=⟨k - 1,by omega⟩
  have h1:=allL_length a
  rw [spec_MeetSets.j0]
  cases x with
  | true => rfl
  | false =>
   have h:=specMeet_l0 b hb (allL a) (allL_range a) om_ (allL a).length k 0 [] om_ om_ (by simp) om_
   rw [List.drop_zero,List.nil_append] at h
   rw [if_neg (by simp),specSetBytes_is a ha k om_,Option.bind_some]
   exact h
 rw [specSetOk_is a ha k om_,Option.bind_some,specSetOk_is b hb k om_]
 cases h1 : setOkR a with
 | true => rw [if_pos rfl,Option.bind_some,hj,Bool.not_not,Bool.true_and]
 | false => rw [if_neg (by simp),hj];rfl
theorem implMeet_l0 (b : ByteArray) (hb : b.size ≤ 1048576) (L : List Int) (hL : ∀ y ∈ L,0 ≤ y ∧ y ≤ 255) (hl : L.length ≤ 100) (d : Nat) : ∀ (k i : Nat) (acc : List Int),L.length - i = d → i ≤ L.length → acc.length ≤ i → d + 40 * b.size + 5000 ≤ k →
  impl_MeetSets.l0 k b acc L (L.length : Int) (i : Int) = some (setOfR (strOfNums (acc ++ (L.drop i).filter (inR b)))):=by
 induction d with
 | zero =>
  intro k i acc hd hi ha hk
  obtain ⟨k,rfl⟩ : ∃ k',k = k' + 1:=⟨k - 1,by omega⟩
  rw [impl_MeetSets.l0,if_neg om_,implSetOf_is _ (by rw [str_size];omega) _ (by rw [str_size];omega),List.drop_eq_nil_of_le om_,List.filter_nil,List.append_nil]
  rfl
 | succ d ih =>
  intro k i acc hd hi ha hk
  obtain ⟨k,rfl⟩ : ∃ k',k = k' + 1:=⟨k - 1,by omega⟩
  have hlt : i < L.length:=by omega
  have w1 : wrap64 ((i : Int) + 1) = ((i + 1 : Nat) : Int):=by rw [w64 om_ om_];omega
  have e : L.drop i = rd L (i : Int) :: L.drop (i + 1):=by
   rw [List.drop_eq_getElem_cons hlt]
   unfold rd
   rw [Int.toNat_natCast,List.getD_eq_getElem?_getD,List.getElem?_eq_getElem hlt,Option.getD_some]
  have hr : 0 ≤ rd L (i : Int) ∧ rd L (i : Int) ≤ 255:=hL _ (List.mem_of_mem_drop (i:=i) (by rw [e];simp))
  rw [impl_MeetSets.l0,if_pos om_,if_pos om_,if_pos om_,implInSet_is b hb _ hr.1 hr.2 _ om_,Option.bind_some,e,List.filter_cons,w1]
  by_cases hin : inR b (rd L (i : Int)) = true
  ·rw [if_pos hin,if_pos hin,if_pos om_,
    ih k (i + 1) _ om_ om_ lo_ om_,List.append_assoc]
   rfl
  ·rw [if_neg hin,if_neg hin]
   exact ih k (i + 1) _ om_ om_ om_ om_
theorem implMeetSets_is (a b : ByteArray) (ha : a.size ≤ 1048576) (hb : b.size ≤ 1048576) (k : Nat) (hk : 40 * a.size + 40 * b.size + 6000 ≤ k) : impl_MeetSets.f k a b = some (meetR a b):=by
 have h1:=allL_length a
 unfold impl_MeetSets.f impl_MeetSets.f0 meetR
 have hbo : bytesOf (strOfNums (allL a)) = allL a:=bs_allL a
 rw [implSetBytes_is a ha k om_,Option.bind_some,if_pos (by rw [str_size];omega),hbo]
 have hj : ∀ x : Bool,impl_MeetSets.j0 k a b (allL a) x = some (if (!x) = true then setOfR (strOfNums ((allL a).filter (inR b))) else (⟨#[]⟩,false)):=by
  intro x
  obtain ⟨k,rfl⟩ : ∃ k',k = k' + 1:=⟨k - 1,by omega⟩
  rw [impl_MeetSets.j0]
  cases x with
  | true => rfl
  | false =>
   have h:=implMeet_l0 b hb (allL a) (allL_range a) om_ (allL a).length k 0 [] om_ om_ (by simp) om_
   rw [List.drop_zero,List.nil_append] at h
   rw [if_neg (by simp),implSetBytes_is a ha k om_,Option.bind_some]
   exact h
 rw [implSetOk_is a ha k om_,Option.bind_some,implSetOk_is b hb k om_]
 cases h1 : setOkR a with
 | true => rw [if_pos rfl,Option.bind_some,hj,Bool.not_not,Bool.true_and]
 | false => rw [if_neg (by simp),hj];rfl
theorem allOk_join {a b : ByteArray} (ha : setOkR a = true) (hb : setOkR b = true) : joinR a b = setOfR (strOfNums (allL a) ++ strOfNums (allL b)):=by
 unfold joinR
 rw [ha,hb];rfl
theorem allOk_meet {a b : ByteArray} (ha : setOkR a = true) (hb : setOkR b = true) : meetR a b = setOfR (strOfNums ((allL a).filter (inR b))):=by
 unfold meetR
 rw [ha,hb];rfl
theorem join_in {a b : ByteArray} (ha : setOkR a = true) (hb : setOkR b = true) (h : (joinR a b).2 = true) (x : Int) : inR (joinR a b).1 x = (inR a x || inR b x):=by
 rw [allOk_join ha hb] at h ⊢
 rw [Bool.eq_iff_iff,setOfR_in h,bs_append,bs_allL,bs_allL,List.mem_append,mem_allL,mem_allL,Bool.or_eq_true]
theorem meet_in {a b : ByteArray} (ha : setOkR a = true) (hb : setOkR b = true) (h : (meetR a b).2 = true) (x : Int) : inR (meetR a b).1 x = (inR a x && inR b x):=by
 rw [allOk_meet ha hb] at h ⊢
 rw [Bool.eq_iff_iff,setOfR_in h,bs_str (fun y hy => allL_range a y (List.mem_filter.1 hy).1),List.mem_filter,mem_allL,Bool.and_eq_true]
theorem join_size (a b : ByteArray) : (joinR a b).1.size ≤ 12:=by
 unfold joinR
 split
 ·exact setOfR_size _
 ·decide
theorem meet_size (a b : ByteArray) : (meetR a b).1.size ≤ 12:=by
 unfold meetR
 split
 ·exact setOfR_size _
 ·decide
def AZ : ByteArray:=⟨#[97,45,122,48,45,57]⟩
theorem az_ok : setOkR AZ = true:=by decide +kernel
theorem az_in (x : Int) : inR AZ x = sb x:=by
 have h : rowsOf AZ = some [(97,122),(48,57)]:=by decide +kernel
 have hl : lenOk AZ = true:=by decide +kernel
 unfold inR
 rw [h]
 show (lenOk AZ && _) = _
 rw [hl,Bool.true_and]
 unfold sb
 simp only [List.any_cons,List.any_nil,Bool.or_false]
 rw [Bool.eq_iff_iff,Bool.or_eq_true,decide_eq_true_iff,decide_eq_true_iff,decide_eq_true_iff]
theorem allL_congr {s t : ByteArray} (h : ∀ x,inR s x = inR t x) : allL s = allL t:=asc_unique _ _ (allL_asc s) (allL_asc t) (fun x => by rw [mem_allL,mem_allL,h])
theorem az_dd : Srt.dd (Srt.msort (allL AZ)) = seg 48 57 ++ seg 97 122:=by
 refine asc_unique _ _ (ddms_asc _) (by decide +kernel) (fun x => ?_)
 rw [mem_ddms,mem_allL,az_in,List.mem_append,mem_seg,mem_seg]
 unfold sb
 rw [decide_eq_true_iff]
 omega
theorem join_az {a : ByteArray} (ha : setOkR a = true) : (joinR a AZ).2 = true:=by
 rw [allOk_join ha az_ok]
 have e : setOfR (strOfNums (allL a) ++ strOfNums (allL AZ)) = setOfR (strOfNums (allL AZ)):=by
  refine setOfR_congr fun x => ?_
  rw [bs_append,List.mem_append,bs_allL,bs_allL,mem_allL,mem_allL]
  constructor
  ·rintro (h | h)
   ·rw [az_in];exact inR_sb h
   ·exact h
  ·exact Or.inr
 rw [e]
 unfold setOfR
 rw [bs_allL,if_pos (List.all_eq_true.2 (allL_sb AZ)),az_dd]
 decide +kernel
theorem drawJoinSets_is (b : List Int) (hb : b.length ≤ 140737488351232) (k : Nat) (hk : 4001 ≤ k) : ∃ x y,spec_DrawJoinSets.f k b = some (x,y) ∧ x.size ≤ 13 ∧ y.size ≤ 13:=by
 unfold spec_DrawJoinSets.f
 obtain ⟨h,e⟩:=l01New_is b hb k hk
 obtain ⟨x,j1,h1,e1,hx,a1⟩:=l05Any_is b 0 h ⟨hb,by omega,by omega⟩
 obtain ⟨y,j2,h2,e2,hy,a2⟩:=l05Any_is b j1 h1 a1
 refine ⟨x,y,?_,hx,hy⟩
 rw [e,Option.bind_some]
 show ((spec_l05Any.f b 0 h).bind _ : Option _) = _
 rw [e1,Option.bind_some]
 show ((spec_l05Any.f b j1 h1).bind _ : Option _) = _
 rw [e2,Option.bind_some]
theorem FnSetsMet : laws_FnSetsMet.Pure:=by
 intro l hl hsz hw
 refine ⟨100000,?_⟩
 unfold laws_FnSetsMet.f laws_big.f
 rw [Option.bind_some]
 by_cases hbig : decide ((l.length : Int) > 1048576) = true
 ·rw [if_pos hbig]
 rw [if_neg hbig]
 obtain ⟨a,b,e,ha,hb⟩:=drawSets_is l om_ 100000 om_
 obtain ⟨x,y,e2,hx,hy⟩:=drawJoinSets_is l om_ 100000 om_
 obtain ⟨a1,a2,a3⟩:=sets10_ok a ha
 obtain ⟨b1,b2,b3⟩:=sets10_ok b hb
 have hz : AZ.size = 6:=by decide
 have sA : spec_SetBytes.f 100000 a = some (strOfNums (allL a)):=specSetBytes_is a om_ _ om_
 have sZ : spec_SetBytes.f 100000 AZ = some (strOfNums (allL AZ)):=specSetBytes_is AZ om_ _ om_
 have hj : (joinR a a).2 = true → impl_SetBytes.f 100000 (joinR a a).1 = some (strOfNums (allL a)):=fun h => by
  have:=join_size a a
  rw [implSetBytes_is _ om_ _ om_,allL_congr (t:=a) (fun x => by rw [join_in a1 a1 h,Bool.or_self])]
 have hm : (meetR a AZ).2 = true → impl_SetBytes.f 100000 (meetR a AZ).1 = some (strOfNums (allL a)):=fun h => by
  have:=meet_size a AZ
  rw [implSetBytes_is _ om_ _ om_,allL_congr (t:=a) (fun x => by
   rw [meet_in a1 az_ok h,az_in]
   cases hi : inR a x with
   | true => rw [inR_sb hi];rfl
   | false => rfl)]
 have hall:=join_az a1
 have hallB : impl_SetBytes.f 100000 (joinR a AZ).1 = some (strOfNums (allL AZ)):=by
  have:=join_size a AZ
  rw [implSetBytes_is _ om_ _ om_,allL_congr (t:=AZ) (fun x => by
   rw [join_in a1 az_ok hall,az_in]
   cases hi : inR a x with
   | true => rw [inR_sb hi];rfl
   | false => rfl)]
 have hb' : impl_SetOk.f 100000 b = some true:=by rw [implSetOk_is b om_ _ om_,b1]
 have j1:=implJoinSets_is a a om_ om_ 100000 om_
 have j2:=implMeetSets_is a AZ om_ om_ 100000 om_
 have j3:=implJoinSets_is a AZ om_ om_ 100000 om_
 have j4:=implJoinSets_is x y om_ om_ 100000 om_
 have j5:=specJoinSets_is x y om_ om_ 100000 om_
 have j6:=implMeetSets_is x y om_ om_ 100000 om_
 have j7:=specMeetSets_is x y om_ om_ 100000 om_
 rw [show (⟨#[97,45,122,48,45,57]⟩ : ByteArray) = AZ from rfl,e,Option.bind_some]
 simp only [j1,j2,j3,e2,j4,j5,j6,j7,Option.bind_some,sA,sZ,hallB,hall,hb',if_true,beq_self_eq_true]
 by_cases c1 : (joinR a a).2 = true
 ·simp only [c1,hj c1,if_true,Option.bind_some]
  by_cases c2 : (meetR a AZ).2 = true
  ·simp only [c2,hm c2,if_true,Option.bind_some]
  ·rw [if_neg c2]
 ·rw [if_neg c1]
  by_cases c2 : (meetR a AZ).2 = true
  ·simp only [c2,hm c2,if_true,Option.bind_some]
  ·rw [if_neg c2]
end Go.Proofs.Ytbkncnlehlldeaa.Pure
