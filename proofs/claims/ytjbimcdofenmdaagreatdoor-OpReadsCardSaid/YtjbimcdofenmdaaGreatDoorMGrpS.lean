/- The contract of the reference's Parse: what gparseR says. Condition: a text of at most 2^32 bytes. -/
import Derived.Test.YtjbimcdofenmdaaGreatDoorMGrpP
namespace Go.Proofs.YtjbimcdofenmdaaGreatDoor
open Go.RowKit
def optI : Option Nat → Int
 | none => -1
 | some n => n
theorem gbyte_at (s : ByteArray) (k : Nat) (h : k < s.size) : (s.data.toList ++ [44])[k]? = some s[k]:=by
 rw [List.getElem?_append_left (by simpa using h)]
 rw [List.getElem?_eq_getElem (by simpa using h)]; rfl
theorem byte_end (s : ByteArray) : (s.data.toList ++ [44])[s.size]? = some 44:=by
 rw [List.getElem?_append_right (by simp)]; simp
theorem runR_step (L : List UInt8) (k : Nat) (c : UInt8) (st : StR) (h : L[k]? = some c) (hr : runR (0,none,none) (L.take k) = some st) : runR (0,none,none) (L.take (k + 1)) = gstepR st c:=by
 rw [take_one L k c h,runR_snoc,hr]; rfl
theorem runR_fail (L : List UInt8) (k : Nat) (c : UInt8) (st : StR) (h : L[k]? = some c) (hr : runR (0,none,none) (L.take k) = some st) (hf : gstepR st c = none) : runR (0,none,none) L = none:=by
 rw [← List.take_append_drop (k + 1) L]
 exact runR_none _ _ _ (by rw [runR_step L k c st h hr,hf])
theorem parseR_fail (s : ByteArray) (h1 : ¬ s.data.toList = [45]) (h2 : ¬ s.data.toList = [42]) (h : runR (0,none,none) (s.data.toList ++ [44]) = none) : gparseR s.data.toList = (0,4):=by
 unfold gparseR; rw [if_neg h1,if_neg h2]
 have : readR s.data.toList = none:=by unfold readR; rw [h]; rfl
 rw [this]
theorem step_digit (m : Nat) (f n : Option Nat) (c : UInt8) (h1 : 48 ≤ c.toNat) (h2 : c.toNat ≤ 57) (h : n.getD 0 * 10 + (c.toNat - 48) < 64) : gstepR (m,f,n) c = some (m,f,some (n.getD 0 * 10 + (c.toNat - 48))):=by
 unfold gstepR; rw [if_pos ⟨h1,h2⟩,if_pos h]
theorem step_big (m : Nat) (f n : Option Nat) (c : UInt8) (h1 : 48 ≤ c.toNat) (h2 : c.toNat ≤ 57) (h : ¬ n.getD 0 * 10 + (c.toNat - 48) < 64) : gstepR (m,f,n) c = none:=by
 unfold gstepR; rw [if_pos ⟨h1,h2⟩,if_neg h]
theorem step_nil (m : Nat) (f : Option Nat) (c : UInt8) (h : ¬ (48 ≤ c.toNat ∧ c.toNat ≤ 57)) : gstepR (m,f,none) c = none:=by
 unfold gstepR; rw [if_neg h]
theorem step_dash (m n : Nat) (f : Option Nat) (c : UInt8) (h : c.toNat = 45) : gstepR (m,f,some n) c = some (m,some n,none):=by
 unfold gstepR; rw [if_neg (by omega)]; simp [h]
theorem step_comma (m n : Nat) (f : Option Nat) (c : UInt8) (h : c.toNat = 44) : gstepR (m,f,some n) c = some (runN m (f.getD n) (n + 1 - f.getD n),none,none):=by
 unfold gstepR; rw [if_neg (by omega)]; simp [h]
theorem gstep_other (m n : Nat) (f : Option Nat) (c : UInt8) (h : ¬ (48 ≤ c.toNat ∧ c.toNat ≤ 57)) (h1 : c.toNat ≠ 45) (h2 : c.toNat ≠ 44) : gstepR (m,f,some n) c = none:=by
 unfold gstepR; rw [if_neg h]; simp [h1,h2]
attribute [local irreducible] runR gstepR runN gfmtL byt
set_option maxRecDepth 100000 in
set_option maxHeartbeats 8000000 in
theorem ref18_Parse (s : ByteArray) (w : World) (hs : s.size ≤ 4294967296) :
  Calls Tryz.prog 66 #[.string s] w fun e w' => e = .returned (.tuple #[.int .u64 ((gparseR s.data.toList).1 : Nat),.int .i64 (gparseR s.data.toList).2]) ∧ w = w':=by
 by_cases h2 : s.data.toList = [42]
 ·have e : gparseR s.data.toList = (18446744073709551615,0):=by unfold gparseR; rw [if_neg (by rw [h2]; decide),if_pos h2]
  rw [e]
  obtain rfl:=bytes_eq h2
  rw [show byt [42] = ⟨#[42]⟩ from by unfold byt; rfl]
  go_enter Tryz.func66,Tryz.ntmps66
  go_wp2_with fail
  refine (ref_all _ _).mono ?_
  rintro e w' ⟨rfl,rfl⟩
  rw [show allR 64 = 18446744073709551615 from by decide,show allE 64 = 0 from by decide]
  go_wp2_with fail
  go_ret2
  exact ⟨rfl,rfl⟩
 by_cases h1 : s.data.toList = [45]
 ·have e : gparseR s.data.toList = (0,0):=by unfold gparseR; rw [if_pos h1]
  rw [e]
  obtain rfl:=bytes_eq h1
  rw [show byt [45] = ⟨#[45]⟩ from by unfold byt; rfl]
  go_enter Tryz.func66,Tryz.ntmps66
  go_wp2_with fail
  refine (ref_all _ _).mono ?_
  rintro e w' ⟨rfl,rfl⟩
  rw [show allR 64 = 18446744073709551615 from by decide,show allE 64 = 0 from by decide]
  go_wp2_with fail
  go_ret2
  exact ⟨rfl,rfl⟩
 have g1:=bytes_ne s [45] h1
 have g2:=bytes_ne s [42] h2
 go_enter Tryz.func66,Tryz.ntmps66
 go_wp2_with fail
 refine (ref_all _ _).mono ?_
 rintro e w' ⟨rfl,rfl⟩
 rw [show allR 64 = 18446744073709551615 from by decide,show allE 64 = 0 from by decide]
 go_wp2_with fail
 go_loop [6,7,8,9] (fun sv fv nv iv => ∃ (k m : Nat) (f n : Option Nat),k ≤ s.size + 1 ∧ sv = .int .u64 m ∧ fv = .int .i64 (optI f) ∧ nv = .int .i64 (optI n) ∧ iv = .int .i64 k ∧ Keep (runR (0,none,none) ((s.data.toList ++ [44]).take k) = some (m,f,n))) (fun _ _ _ iv => s.size + 1 - (intOf iv).toNat)
 case atStart => exact ⟨0,0,none,none,by omega,rfl,rfl,rfl,rfl,keep (by rw [List.take_zero]; unfold runR; rfl)⟩
 case round =>
  obtain ⟨k,m,f,n,hk,rfl,rfl,rfl,rfl,HT⟩:=hrel
  have hok:=runR_ok _ _ _ okR_start HT.out
  have hm:=hok.1
  have hf64:=hok.2.1
  have hn64:=hok.2.2
  clear hok
  by_cases hlt : k < s.size
  ·have HC:=keep (gbyte_at s k hlt)
   generalize hcc : s[k] = c at HC
   have hle : (k : Int) ≤ s.size:=by omega
   have hcb : (c.toNat : Int) < 256:=by have:=c.toNat_lt; omega
   obtain ⟨g,hg,hg64⟩ : ∃ g,n.getD 0 = g ∧ g < 64:=by
    cases n with
    | none => exact ⟨0,rfl,by decide⟩
    | some n0 => exact ⟨n0,rfl,hn64 n0 rfl⟩
   have hmx : max (optI n) 0 = (g : Int):=by
    cases n with
    | none => obtain rfl:=hg; rfl
    | some n0 => obtain rfl:=hg; show max (n0 : Int) 0 = n0; omega
   by_cases d0 : 48 ≤ (c.toNat : Int)
   ·by_cases d1 : (c.toNat : Int) ≤ 57
    ·by_cases hv : g * 10 + (c.toNat - 48) < 64
     ·have HS1:=keep (step_digit m f n c (by omega) (by omega) (by rw [hg]; exact hv))
      have hq : decide (0 ≤ (g : Int) * 10 + ((c.toNat : Int) - 48) ∧ (g : Int) * 10 + ((c.toNat : Int) - 48) < 64) = true:=by simp; omega
      have HG:=keep hg
      clear hg
      go_wp2_with fail
      refine (user_any _ _).mono ?_
      rintro e w' ⟨rfl,rfl⟩
      rw [hq]
      go_wp2_with fail
      go_round
      case rel => exact ⟨k + 1,m,f,some (g * 10 + (c.toNat - 48)),by omega,rfl,rfl,by show Value.int _ _ = .int _ ((g * 10 + (c.toNat - 48) : Nat) : Int); congr 1; omega,by go_num,keep ((runR_step _ k c _ HC.out HT.out).trans (HS1.out.trans (by rw [HG.out])))⟩
      case measure => simp [intOf]; omega
     ·have HS1:=keep (step_big m f n c (by omega) (by omega) (by rw [hg]; exact hv))
      have hq : decide (0 ≤ (g : Int) * 10 + ((c.toNat : Int) - 48) ∧ (g : Int) * 10 + ((c.toNat : Int) - 48) < 64) = false:=by simp; omega
      clear hg
      go_wp2_with fail
      refine (user_any _ _).mono ?_
      rintro e w' ⟨rfl,rfl⟩
      rw [hq]
      go_wp2_with fail
      go_ret2
      rw [parseR_fail s h1 h2 (runR_fail _ k c _ HC.out HT.out HS1.out)]
      exact ⟨rfl,rfl⟩
    ·clear hmx hg
     cases n with
     | none =>
      rw [show optI none = -1 from rfl]
      have HS1:=keep (step_nil m f c (by omega))
      go_wp2_with fail
      go_ret2
      rw [parseR_fail s h1 h2 (runR_fail _ k c _ HC.out HT.out HS1.out)]
      exact ⟨rfl,rfl⟩
     | some n0 =>
      rw [show optI (some n0) = (n0 : Int) from rfl]
      have e3 : ((c.toNat : Int) == 45) = false:=by rw [beq_eq_false_iff_ne]; omega
      have HS1:=keep (gstep_other m n0 f c (by omega) (by omega) (by omega))
      have e4 : ((c.toNat : Int) != 44) = true:=by rw [bne_iff_ne]; omega
      go_wp2_with fail
      go_ret2
      rw [parseR_fail s h1 h2 (runR_fail _ k c _ HC.out HT.out HS1.out)]
      exact ⟨rfl,rfl⟩
   ·clear hmx hg
    cases n with
    | none =>
     rw [show optI none = -1 from rfl]
     have HS1:=keep (step_nil m f c (by omega))
     go_wp2_with fail
     go_ret2
     rw [parseR_fail s h1 h2 (runR_fail _ k c _ HC.out HT.out HS1.out)]
     exact ⟨rfl,rfl⟩
    | some n0 =>
     rw [show optI (some n0) = (n0 : Int) from rfl]
     have hn0:=hn64 n0 rfl
     by_cases e1 : c.toNat = 45
     ·have HS1:=keep (step_dash m n0 f c e1)
      have e2 : ((c.toNat : Int) == 45) = true:=by rw [e1]; rfl
      go_wp2_with fail
      go_round
      case rel => exact ⟨k + 1,m,some n0,none,by omega,rfl,rfl,rfl,by go_num,keep ((runR_step _ k c _ HC.out HT.out).trans HS1.out)⟩
      case measure => simp [intOf]; omega
     have e3 : ((c.toNat : Int) == 45) = false:=by rw [beq_eq_false_iff_ne]; omega
     by_cases e2 : c.toNat = 44
     ·have HS1:=keep (step_comma m n0 f c e2)
      have e4 : ((c.toNat : Int) != 44) = false:=by rw [e2]; rfl
      cases f with
      | none =>
       rw [show optI none = -1 from rfl]
       have HS1:=keep (show gstepR (m,none,some n0) c = some (runN m n0 (n0 + 1 - n0),none,none) from HS1.out)
       go_wp2_with fail
       go_loop [6,10] (fun sv uv => ∃ j : Nat,j ≤ n0 + 1 - n0 ∧ sv = .int .u64 ((runN m n0 j : Nat) : Int) ∧ uv = .int .i64 ((n0 + j : Nat) : Int)) (fun _ uv => n0 + 1 - (intOf uv).toNat)
       case atStart => exact ⟨0,by omega,by unfold runN; rfl,rfl⟩
       case round =>
        obtain ⟨j,hj,rfl,rfl⟩:=hrel
        by_cases hjl : ((n0 + j : Nat) : Int) ≤ n0
        ·have hrl:=runN_lt m n0 j hm (by omega)
         have HR:=keep (show runN m n0 j ||| 2 ^ (n0 + j) = runN m n0 (j + 1) by rw [runN])
         have ho:=u64_or_nat (runN m n0 j) (2 ^ (n0 + j)) hrl (pow_lt _ (by omega))
         generalize runN m n0 j = rr at ho hrl HR ⊢
         go_wp2_with fail
         refine (bit_any _ _ (by omega) (by omega)).mono ?_
         rintro e w' ⟨rfl,rfl⟩
         rw [show ((n0 : Int) + (j : Int)).toNat = n0 + j from by omega]
         generalize 2 ^ (n0 + j) = pw at ho HR ⊢
         go_wp2_with fail
         exact ⟨⟨j + 1,by omega,by rw [← HR.out],by go_num⟩,by simp [intOf]; omega⟩
        ·have hje : j = n0 + 1 - n0:=by omega
         subst hje
         go_wp2_with fail
         exact ⟨⟨k + 1,_,none,none,by omega,rfl,rfl,rfl,by go_num,keep ((runR_step _ k c _ HC.out HT.out).trans HS1.out)⟩,by simp [intOf] <;> omega⟩
      | some f0 =>
       rw [show optI (some f0) = (f0 : Int) from rfl]
       have hf0:=hf64 f0 rfl
       have HS1:=keep (show gstepR (m,some f0,some n0) c = some (runN m f0 (n0 + 1 - f0),none,none) from HS1.out)
       go_wp2_with fail
       go_loop [6,10] (fun sv uv => ∃ j : Nat,j ≤ n0 + 1 - f0 ∧ sv = .int .u64 ((runN m f0 j : Nat) : Int) ∧ uv = .int .i64 ((f0 + j : Nat) : Int)) (fun _ uv => n0 + 1 - (intOf uv).toNat)
       case atStart => exact ⟨0,by omega,by unfold runN; rfl,rfl⟩
       case round =>
        obtain ⟨j,hj,rfl,rfl⟩:=hrel
        by_cases hjl : ((f0 + j : Nat) : Int) ≤ n0
        ·have hrl:=runN_lt m f0 j hm (by omega)
         have HR:=keep (show runN m f0 j ||| 2 ^ (f0 + j) = runN m f0 (j + 1) by rw [runN])
         have ho:=u64_or_nat (runN m f0 j) (2 ^ (f0 + j)) hrl (pow_lt _ (by omega))
         generalize runN m f0 j = rr at ho hrl HR ⊢
         go_wp2_with fail
         refine (bit_any _ _ (by omega) (by omega)).mono ?_
         rintro e w' ⟨rfl,rfl⟩
         rw [show ((f0 : Int) + (j : Int)).toNat = f0 + j from by omega]
         generalize 2 ^ (f0 + j) = pw at ho HR ⊢
         go_wp2_with fail
         exact ⟨⟨j + 1,by omega,by rw [← HR.out],by go_num⟩,by simp [intOf]; omega⟩
        ·have hje : j = n0 + 1 - f0:=by omega
         subst hje
         go_wp2_with fail
         exact ⟨⟨k + 1,_,none,none,by omega,rfl,rfl,rfl,by go_num,keep ((runR_step _ k c _ HC.out HT.out).trans HS1.out)⟩,by simp [intOf] <;> omega⟩
     ·have HS1:=keep (gstep_other m n0 f c (by omega) e1 e2)
      have e4 : ((c.toNat : Int) != 44) = true:=by rw [bne_iff_ne]; omega
      go_wp2_with fail
      go_ret2
      rw [parseR_fail s h1 h2 (runR_fail _ k c _ HC.out HT.out HS1.out)]
      exact ⟨rfl,rfl⟩
  ·by_cases hke : k = s.size
   ·subst hke
    have HC:=keep (byte_end s)
    clear hlt
    cases n with
    | none =>
     rw [show optI none = -1 from rfl]
     have HS1:=keep (step_nil m f 44 (by decide))
     go_wp2_with fail
     go_ret2
     rw [parseR_fail s h1 h2 (runR_fail _ _ 44 _ HC.out HT.out HS1.out)]
     exact ⟨rfl,rfl⟩
    | some n0 =>
     rw [show optI (some n0) = (n0 : Int) from rfl]
     have hn0:=hn64 n0 rfl
     have HS1:=keep (step_comma m n0 f 44 rfl)
     cases f with
     | none =>
      rw [show optI none = -1 from rfl]
      have HS1:=keep (show gstepR (m,none,some n0) 44 = some (runN m n0 (n0 + 1 - n0),none,none) from HS1.out)
      go_wp2_with fail
      go_loop [6,10] (fun sv uv => ∃ j : Nat,j ≤ n0 + 1 - n0 ∧ sv = .int .u64 ((runN m n0 j : Nat) : Int) ∧ uv = .int .i64 ((n0 + j : Nat) : Int)) (fun _ uv => n0 + 1 - (intOf uv).toNat)
      case atStart => exact ⟨0,by omega,by unfold runN; rfl,rfl⟩
      case round =>
       obtain ⟨j,hj,rfl,rfl⟩:=hrel
       by_cases hjl : ((n0 + j : Nat) : Int) ≤ n0
       ·have hrl:=runN_lt m n0 j hm (by omega)
        have HR:=keep (show runN m n0 j ||| 2 ^ (n0 + j) = runN m n0 (j + 1) by rw [runN])
        have ho:=u64_or_nat (runN m n0 j) (2 ^ (n0 + j)) hrl (pow_lt _ (by omega))
        generalize runN m n0 j = rr at ho hrl HR ⊢
        go_wp2_with fail
        refine (bit_any _ _ (by omega) (by omega)).mono ?_
        rintro e w' ⟨rfl,rfl⟩
        rw [show ((n0 : Int) + (j : Int)).toNat = n0 + j from by omega]
        generalize 2 ^ (n0 + j) = pw at ho HR ⊢
        go_wp2_with fail
        exact ⟨⟨j + 1,by omega,by rw [← HR.out],by go_num⟩,by simp [intOf]; omega⟩
       ·have hje : j = n0 + 1 - n0:=by omega
        subst hje
        go_wp2_with fail
        exact ⟨⟨s.size + 1,_,none,none,by omega,rfl,rfl,rfl,by go_num,keep ((runR_step _ _ 44 _ HC.out HT.out).trans HS1.out)⟩,by simp [intOf] <;> omega⟩
     | some f0 =>
      rw [show optI (some f0) = (f0 : Int) from rfl]
      have hf0:=hf64 f0 rfl
      have HS1:=keep (show gstepR (m,some f0,some n0) 44 = some (runN m f0 (n0 + 1 - f0),none,none) from HS1.out)
      go_wp2_with fail
      go_loop [6,10] (fun sv uv => ∃ j : Nat,j ≤ n0 + 1 - f0 ∧ sv = .int .u64 ((runN m f0 j : Nat) : Int) ∧ uv = .int .i64 ((f0 + j : Nat) : Int)) (fun _ uv => n0 + 1 - (intOf uv).toNat)
      case atStart => exact ⟨0,by omega,by unfold runN; rfl,rfl⟩
      case round =>
       obtain ⟨j,hj,rfl,rfl⟩:=hrel
       by_cases hjl : ((f0 + j : Nat) : Int) ≤ n0
       ·have hrl:=runN_lt m f0 j hm (by omega)
        have HR:=keep (show runN m f0 j ||| 2 ^ (f0 + j) = runN m f0 (j + 1) by rw [runN])
        have ho:=u64_or_nat (runN m f0 j) (2 ^ (f0 + j)) hrl (pow_lt _ (by omega))
        generalize runN m f0 j = rr at ho hrl HR ⊢
        go_wp2_with fail
        refine (bit_any _ _ (by omega) (by omega)).mono ?_
        rintro e w' ⟨rfl,rfl⟩
        rw [show ((f0 : Int) + (j : Int)).toNat = f0 + j from by omega]
        generalize 2 ^ (f0 + j) = pw at ho HR ⊢
        go_wp2_with fail
        exact ⟨⟨j + 1,by omega,by rw [← HR.out],by go_num⟩,by simp [intOf]; omega⟩
       ·have hje : j = n0 + 1 - f0:=by omega
        subst hje
        go_wp2_with fail
        exact ⟨⟨s.size + 1,_,none,none,by omega,rfl,rfl,rfl,by go_num,keep ((runR_step _ _ 44 _ HC.out HT.out).trans HS1.out)⟩,by simp [intOf] <;> omega⟩
   ·obtain rfl : k = s.size + 1:=by omega
    have hcd : ¬ ((s.size + 1 : Nat) : Int) ≤ s.size:=by omega
    have hfin : gparseR s.data.toList = if gfmtL m = s.data.toList then (m,0) else (0,4):=by
     have hr:=HT.out
     rw [List.take_of_length_le (by simp)] at hr
     unfold gparseR
     rw [if_neg h1,if_neg h2,show readR s.data.toList = some m from by unfold readR; rw [hr]; rfl]
    have HFIN:=keep hfin
    clear hfin
    go_wp2_with fail
    refine (ref18_Format m _ hm).mono ?_
    rintro e w' ⟨rfl,rfl⟩
    by_cases heq : gfmtL m = s.data.toList
    ·have gq : (((byt (gfmtL m)).toList == s.toList) : Bool) = true:=by rw [ByteArray.toList_eq,ByteArray.toList_eq,byt_data,heq]; simp
     have HQ:=keep heq
     clear heq
     generalize byt (gfmtL m) = FB at gq ⊢
     go_wp2_with fail
     go_ret2
     rw [HFIN.out,if_pos HQ.out]
     exact ⟨rfl,rfl⟩
    ·have gq : (((byt (gfmtL m)).toList == s.toList) : Bool) = false:=by rw [ByteArray.toList_eq,ByteArray.toList_eq,byt_data,beq_eq_false_iff_ne]; exact heq
     have HQ:=keep heq
     clear heq
     generalize byt (gfmtL m) = FB at gq ⊢
     go_wp2_with fail
     go_ret2
     rw [HFIN.out,if_neg HQ.out]
     exact ⟨rfl,rfl⟩
end Go.Proofs.YtjbimcdofenmdaaGreatDoor
