/- Contracts of the reference's Column and Parse of addresses. -/
import Derived.Test.YtjbimcdofenmdaaGreatDoorMAddP6
import Derived.Test.YtjbimcdofenmdaaGreatDoorMAddrW3
import Derived.Lib.IndexBytes
namespace Go.Proofs.YtjbimcdofenmdaaGreatDoor
open Go.RowKit
theorem letV_le (b : UInt8) : letV b ≤ 26:=by unfold letV; split <;> (try split) <;> omega
theorem isLet_iff (b : UInt8) : isLet b = true ↔ letV b ≠ 0:=by simp [isLet]
theorem ref_letter (b : UInt8) (w : World) :
  Calls Tryz.prog 131 #[.int .u8 (b.toNat : Nat)] w fun e w' => e = .returned (.int .i64 (letV b : Nat)) ∧ w = w':=by
 have hb : b.toNat < 256:=b.toNat_lt
 rcases (show (65 ≤ b.toNat ∧ b.toNat ≤ 90) ∨ (97 ≤ b.toNat ∧ b.toNat ≤ 122) ∨ (b.toNat < 65) ∨ (90 < b.toNat ∧ b.toNat < 97) ∨ (122 < b.toNat) from by omega) with ⟨h1,h2⟩ | ⟨h1,h2⟩ | h1 | ⟨h1,h2⟩ | h1
 ·have e : letV b = b.toNat - 64:=by unfold letV; rw [if_pos ⟨h1,h2⟩]
  rw [e]
  clear e
  go_enter Tryz.func131,Tryz.ntmps131
  go_wp2
  go_ret
  exact ⟨by simp; omega,rfl⟩
 ·have e : letV b = b.toNat - 96:=by unfold letV; rw [if_neg (by omega),if_pos ⟨h1,h2⟩]
  rw [e]
  clear e
  go_enter Tryz.func131,Tryz.ntmps131
  go_wp2
  go_ret
  exact ⟨by simp; omega,rfl⟩
 all_goals
  have e : letV b = 0:=by unfold letV; rw [if_neg (by omega),if_neg (by omega)]
  rw [e]
  clear e
  go_enter Tryz.func131,Tryz.ntmps131
  go_wp2
  go_ret
  exact ⟨rfl,rfl⟩
theorem all_snoc (l : List UInt8) (b : UInt8) (h : l.all isLet = true) (hb : isLet b = true) : (l ++ [b]).all isLet = true:=by simp [List.all_append,h,hb]
theorem columnS_bad (s : ByteArray) (k : Nat) (h : k < s.size) (hb : isLet s[k] = false) : columnS s.data.toList = (0,4):=by
 unfold columnS
 rw [if_pos]
 right
 rw [List.all_eq_false]
 exact ⟨s[k],by rw [show s[k] = s.data.toList[k]'(by simpa using h) from rfl]; exact List.getElem_mem _,by simp [hb]⟩
theorem ref_Column (s : ByteArray) (w : World) (hs : s.size ≤ 4611686018427387904) :
  Calls Tryz.prog 132 #[.string s] w fun e w' => e = .returned (.tuple #[.int .i64 (columnS s.data.toList).1,.int .i64 (columnS s.data.toList).2]) ∧ w = w':=by
 go_enter Tryz.func132,Tryz.ntmps132
 go_wp2_with fail
 go_loop [4,5] (fun n i => ∃ k : Nat,k ≤ s.size ∧ i = .int .i64 k ∧ n = .int .i64 (colOf (s.data.toList.take k) : Nat) ∧ (s.data.toList.take k).all isLet = true) (fun _ i => s.size - (intOf i).toNat)
 case atStart => exact ⟨0,Nat.zero_le _,rfl,rfl,rfl⟩
 case round =>
  obtain ⟨k,hk,rfl,rfl,hall⟩:=hrel
  have HA:=Lib.hid hall
  clear hall
  have hco:=colOf_le (s.data.toList.take k)
  by_cases hlt : k < s.size
  ·have hsn:=take_snoc8 s k hlt
   have HS:=Lib.hid hsn
   clear hsn
   have hle:=letV_le s[k]
   by_cases hz : letV s[k] = 0
   ·have HZ:=Lib.hid hz
    have hzb : ((letV s[k] : Int) == 0) = true:=by simp [hz]
    clear hz
    go_wp2_with (go_at_call 131; refine (ref_letter s[k] _).mono ?_; rintro e w' ⟨rfl,rfl⟩)
    go_ret2
    rw [columnS_bad s k hlt (by simp [isLet,HZ.out])]
    exact ⟨rfl,rfl⟩
   ·have HZ:=Lib.hid hz
    have hzb : ((letV s[k] : Int) == 0) = false:=by simp [hz]
    clear hz
    go_wp2_with (go_at_call 131; refine (ref_letter s[k] _).mono ?_; rintro e w' ⟨rfl,rfl⟩)
    go_round
    case rel =>
     refine ⟨k + 1,by omega,by go_num,?_,?_⟩
     ·rw [HS.out,colOf_snoc]; congr 1; omega
     ·rw [HS.out]; exact all_snoc _ _ HA.out ((isLet_iff _).2 HZ.out)
    case measure => simp [intOf]; omega
  ·have hke : s.data.toList.take k = s.data.toList:=List.take_of_length_le (by simp; omega)
   rw [hke] at hco ⊢
   have hA:=HA.out
   rw [hke] at hA
   have HAA:=Lib.hid hA
   clear HA hA hke
   have hcase : columnS s.data.toList = if s.data.toList = [] then (0,4) else if 1024 < colOf s.data.toList then (0,3) else (((colOf s.data.toList : Nat) : Int),0):=by
    unfold columnS
    by_cases h : s.data.toList = []
    ·rw [if_pos (.inl h),if_pos h]
    ·rw [if_neg (by simp only [h,HAA.out]; simp),if_neg h]
   have HC:=Lib.hid hcase
   clear hcase
   by_cases h0 : s.data.toList = []
   ·have hc0 : colOf s.data.toList = 0:=by rw [h0]; rfl
    rw [hc0] at hco ⊢
    have H0:=Lib.hid h0
    clear h0 hc0
    go_wp2_with fail
    go_ret2
    rw [HC.out,if_pos H0.out]
    exact ⟨rfl,rfl⟩
   ·have hp:=colOf_pos _ h0 (List.all_eq_true.1 HAA.out)
    have H0:=Lib.hid h0
    clear h0
    generalize colOf s.data.toList = c at hp hco HC ⊢
    have hcb : ((c : Int) == 0) = false:=by simp; omega
    by_cases h1 : 1024 < c
    ·go_wp2_with fail
     go_ret2
     rw [HC.out,if_neg H0.out,if_pos h1]
     exact ⟨rfl,rfl⟩
    ·go_wp2_with fail
     go_ret2
     rw [HC.out,if_neg H0.out,if_neg h1]
     exact ⟨rfl,rfl⟩
theorem split_at (l : List UInt8) (k : Nat) (ha : (l.take k).all isLet = true) (hd : l.drop k = [] ∨ ∃ b m,l.drop k = b :: m ∧ isLet b = false) : l.takeWhile isLet = l.take k ∧ l.dropWhile isLet = l.drop k:=by
 have key : ∀ a d : List UInt8,a.all isLet = true → (d = [] ∨ ∃ b m,d = b :: m ∧ isLet b = false) → (a ++ d).takeWhile isLet = a ∧ (a ++ d).dropWhile isLet = d:=by
  intro a
  induction a with
  | nil =>
   intro d _ hd
   rcases hd with rfl | ⟨b,m,rfl,hb⟩
   ·exact ⟨rfl,rfl⟩
   ·simp [hb]
  | cons x a ih =>
   intro d h hd
   rw [List.all_cons,Bool.and_eq_true] at h
   have:=ih d h.2 hd
   simp [h.1,this]
 have:=key (l.take k) (l.drop k) ha hd
 rwa [List.take_append_drop] at this
theorem parseS_at (l : List UInt8) (k : Nat) (ha : (l.take k).all isLet = true) (hd : l.drop k = [] ∨ ∃ b m,l.drop k = b :: m ∧ isLet b = false) :
  parseS l = if l.take k = [] ∨ l.drop k = [] ∨ (l.drop k).head? = some 48 ∨ (l.drop k).all isDig = false then (0,0,4)
   else if 1024 < colOf (l.take k) ∨ 1024 < rowOf (l.drop k) then (0,0,3) else (((colOf (l.take k) : Nat) : Int),((rowOf (l.drop k) : Nat) : Int),0):=by
 obtain ⟨h1,h2⟩:=split_at l k ha hd
 simp only [parseS,h1,h2]
theorem drop_at (s : ByteArray) (k : Nat) (h : k < s.size) : s.data.toList.drop k = s[k] :: s.data.toList.drop (k + 1):=by
 rw [List.drop_eq_getElem_cons (by simpa using h)]; rfl
theorem drop_size (s : ByteArray) : s.data.toList.drop s.size = []:=List.drop_eq_nil_of_le (by simp)
theorem take_ne (s : ByteArray) (k : Nat) (h0 : 0 < k) (h : k ≤ s.size) : s.data.toList.take k ≠ []:=by
 intro e
 have h1:=congrArg List.length e
 rw [List.length_take,List.length_nil] at h1
 have h2 : s.data.toList.length = s.size:=by simp
 omega
theorem mid_snoc (s : ByteArray) (a k : Nat) (h : a + k < s.size) : (s.data.toList.drop a).take (k + 1) = (s.data.toList.drop a).take k ++ [s[a + k]]:=by
 rw [List.take_succ_eq_append_getElem (by simp; omega),List.getElem_drop]; rfl
theorem mid_bad (s : ByteArray) (a k : Nat) (h : a + k < s.size) (hb : isDig s[a + k] = false) : (s.data.toList.drop a).all isDig = false:=by
 rw [List.all_eq_false]
 refine ⟨s[a + k],?_,by simp [hb]⟩
 have : (s.data.toList.drop a)[k]'(by simp; omega) = s[a + k]:=by rw [List.getElem_drop]; rfl
 rw [← this]; exact List.getElem_mem _
theorem rowOf_mid (s : ByteArray) (a k : Nat) (h : a + k < s.size) : rowOf ((s.data.toList.drop a).take (k + 1)) = min (10 * rowOf ((s.data.toList.drop a).take k) + (s[a + k].toNat - 48)) 1025:=by
 rw [mid_snoc s a k h,rowOf_snoc]
def RowRel (s : ByteArray) (k : Nat) (e r i : Value) : Prop :=
 ∃ j : Nat,k + j ≤ s.size ∧ e = .int .i64 0 ∧ i = .int .i64 ((k + j : Nat) : Int) ∧ r = .int .i64 (rowOf ((s.data.toList.drop k).take j) : Nat) ∧ ((s.data.toList.drop k).take j).all isDig = true
set_option maxRecDepth 100000 in
set_option maxHeartbeats 4000000 in
theorem ref_Parse (s : ByteArray) (w : World) (hs : s.size ≤ 4611686018427387904) :
  Calls Tryz.prog 114 #[.string s] w fun e w' => e = .returned (.tuple #[.agg #[.int .i64 (parseS s.data.toList).1,.int .i64 (parseS s.data.toList).2.1],.int .i64 (parseS s.data.toList).2.2]) ∧ Below w.heap.size w w':=by
 generalize hR : parseS s.data.toList = R
 obtain ⟨R1,R2,R3⟩:=R
 have HR:=Lib.hid hR
 clear hR
 have fin : ∀ (c r e : Int) (fr : Act),parseS s.data.toList = (c,r,e) → fr.tmps.getD 2 undef = .pointer (some ⟨w.heap.size,0,none⟩) → fr.tmps.getD 3 undef = .int .i64 e → fr.defers = [] →
   bodyPost Tryz.prog Tryz.f114 (fun e w' => e = .returned (.tuple #[.agg #[.int .i64 R1,.int .i64 R2],.int .i64 R3]) ∧ Below w.heap.size w w') Exit.ret fr (w.alloc (.cells #[.int .i64 c,.int .i64 r] 100)):=by
  intro c r e fr hp h2 h3 hd
  rw [HR.out] at hp
  cases hp
  have h2' : (fr.tmps[2]?).getD undef = .pointer (some ⟨w.heap.size,0,none⟩):=by simpa using h2
  have h3' : (fr.tmps[3]?).getD undef = .int .i64 R3:=by simpa using h3
  exact bodyPost_ret (v:=.tuple #[.agg #[.int .i64 R1,.int .i64 R2],.int .i64 R3]) (by simp [results,Tryz.results114,go_sem,h2',h3']) hd ⟨rfl,(Below.refl _ _).alloc (Nat.le_refl _) _⟩
 have FIN:=Lib.hid fin
 clear fin HR
 go_enter Tryz.func114,Tryz.ntmps114
 go_wp2_with fail
 go_loop [4] (fun i => ∃ k : Nat,k ≤ s.size ∧ i = .int .i64 k ∧ (s.data.toList.take k).all isLet = true) (fun i => s.size - (intOf i).toNat)
 case atStart => exact ⟨0,Nat.zero_le _,rfl,rfl⟩
 case round =>
  obtain ⟨k,hk,rfl,hall⟩:=hrel
  have HA:=Lib.hid hall
  clear hall
  by_cases hlt : k < s.size
  ·by_cases hz : letV s[k] = 0
   ·have hdr:=drop_at s k hlt
    have HZ:=Lib.hid hz
    have HAT : Hid (s.data.toList.drop k = [] ∨ ∃ b m,s.data.toList.drop k = b :: m ∧ isLet b = false):=.inr ⟨_,_,hdr,by simp [isLet,hz]⟩
    have HDR:=Lib.hid hdr
    have hzb : ¬ (0 : Int) < (letV s[k] : Int):=by omega
    clear hz hdr
    by_cases hk0 : k = 0
    ·subst hk0
     go_wp2_with (go_at_call 131; refine (ref_letter s[0] _).mono ?_; rintro e w' ⟨rfl,rfl⟩)
     exact FIN.out 0 0 4 _ (by rw [parseS_at _ 0 HA.out HAT.out,if_pos (.inl rfl)]) rfl rfl rfl
    ·have hkb : ((k : Int) == 0) = false:=by simp; omega
     have hkb2 : ((k : Int) == (s.size : Int)) = false:=by simp; omega
     have HK:=Lib.hid hk0
     clear hk0
     by_cases h48 : s[k] = 48
     ·have h48b : ((s[k].toNat : Int) == 48) = true:=by rw [h48]; rfl
      have H48:=Lib.hid h48
      clear h48
      go_wp2_with (go_at_call 131; refine (ref_letter s[k] _).mono ?_; rintro e w' ⟨rfl,rfl⟩)
      exact FIN.out 0 0 4 _ (by rw [parseS_at _ k HA.out HAT.out,if_pos (.inr (.inr (.inl (by rw [HDR.out,H48.out]; rfl))))]) rfl rfl rfl
     ·have h48b : ((s[k].toNat : Int) == 48) = false:=by
       rw [beq_eq_false_iff_ne]
       intro e
       exact h48 (by rw [← UInt8.toNat_inj]; have : (48 : UInt8).toNat = 48:=rfl; omega)
      have H48:=Lib.hid h48
      clear h48
      go_wp2_with (go_at_call 131; refine (ref_letter s[k] _).mono ?_; rintro e w' ⟨rfl,rfl⟩)
      go_loop [3,5,6] (fun e r i => RowRel s k e r i) (fun _ _ i => s.size - (intOf i).toNat)
      case atStart => exact ⟨0,by omega,rfl,rfl,rfl,rfl⟩
      case round =>
       obtain ⟨j,hj,rfl,rfl,rfl,hdig⟩:=hrel
       have HG:=Lib.hid hdig
       clear hdig
       have hro:=rowOf_le ((s.data.toList.drop k).take j)
       obtain ⟨i,hi⟩ : ∃ i,i = k + j:=⟨_,rfl⟩
       rw [← hi] at hj ⊢
       have HI:=Lib.hid hi
       clear hi
       by_cases hlt2 : i < s.size
       ·have hb8 : s[i].toNat < 256:=s[i].toNat_lt
        by_cases hd : isDig s[i] = true
        ·have hd':=hd
         simp only [isDig,decide_eq_true_eq] at hd'
         obtain ⟨d1,d2⟩:=hd'
         have HD:=Lib.hid hd
         clear hd
         go_wp2_with fail
         go_round
         case rel =>
          have hi:=HI.out
          refine ⟨_,_,_,⟨j + 1,by omega,rfl,by congr 1; omega,?_,?_⟩,rfl,rfl,rfl⟩
          ·subst hi
           rw [rowOf_mid s k j hlt2]; congr 1; omega
          ·subst hi
           rw [mid_snoc s k j hlt2,List.all_append,HG.out]
           simp [HD.out]
         case measure => simp [intOf]; omega
        ·have hd' : s[i].toNat < 48 ∨ 57 < s[i].toNat:=by
          simp only [isDig,decide_eq_true_eq] at hd; omega
         have HBAD : Hid ((s.data.toList.drop k).all isDig = false):=by
          have hi:=HI.out
          subst hi
          exact mid_bad s k j hlt2 (by simpa using hd)
         clear hd
         rcases hd' with hd' | hd'
         ·go_wp2_with fail
          exact FIN.out 0 0 4 _ (by rw [parseS_at _ k HA.out HAT.out,if_pos (.inr (.inr (.inr HBAD.out)))]) rfl rfl rfl
         ·go_wp2_with fail
          exact FIN.out 0 0 4 _ (by rw [parseS_at _ k HA.out HAT.out,if_pos (.inr (.inr (.inr HBAD.out)))]) rfl rfl rfl
       ·have hie : j = s.size - k:=by have:=HI.out; omega
        have hfull : (s.data.toList.drop k).take j = s.data.toList.drop k:=List.take_of_length_le (by simp; omega)
        have hG:=HG.out
        rw [hfull] at hro hG ⊢
        have HP : Hid (parseS s.data.toList = if 1024 < colOf (s.data.toList.take k) ∨ 1024 < rowOf (s.data.toList.drop k) then (0,0,3) else (((colOf (s.data.toList.take k) : Nat) : Int),((rowOf (s.data.toList.drop k) : Nat) : Int),0)):=by
         show _ = _
         rw [parseS_at _ k HA.out HAT.out,if_neg]
         intro hh
         rcases hh with hh | hh | hh | hh
         ·exact take_ne s k (by have:=HK.out; omega) hk hh
         ·rw [HDR.out] at hh; cases hh
         ·rw [HDR.out] at hh
          exact H48.out (by simpa using hh)
         ·rw [hG] at hh; cases hh
        have hie2 : i = s.size:=by omega
        have HC : Hid (columnS (s.extract 0 k).data.toList = if 1024 < colOf (s.data.toList.take k) then (0,3) else (((colOf (s.data.toList.take k) : Nat) : Int),0)):=by
         show _ = _
         rw [Lib.extract_data]
         simp only [List.drop_zero,Nat.sub_zero]
         unfold columnS
         rw [if_neg]
         intro hh
         rcases hh with hh | hh
         ·exact take_ne s k (by have:=HK.out; omega) hk hh
         ·rw [HA.out] at hh; cases hh
        have hco:=colOf_le (s.data.toList.take k)
        clear hie hfull hG HG HI
        generalize rowOf (s.data.toList.drop k) = r at hro HP ⊢
        generalize colOf (s.data.toList.take k) = c at hco HP HC
        have hsz : (s.extract 0 k).size ≤ 4611686018427387904:=by simp; omega
        have HSZ:=Lib.hid hsz
        clear hsz
        by_cases h1 : 1024 < c
        ·go_wp2_with fail
         refine (ref_Column _ _ HSZ.out).mono ?_
         rintro e w' ⟨rfl,rfl⟩
         rw [HC.out,if_pos h1]
         go_wp2_with fail
         exact FIN.out 0 0 3 _ (by rw [HP.out,if_pos (.inl h1)]) rfl rfl rfl
        ·by_cases h2 : 1024 < r
         ·go_wp2_with fail
          refine (ref_Column _ _ HSZ.out).mono ?_
          rintro e w' ⟨rfl,rfl⟩
          rw [HC.out,if_neg h1]
          go_wp2_with fail
          exact FIN.out 0 0 3 _ (by rw [HP.out,if_pos (.inr h2)]) rfl rfl rfl
         ·go_wp2_with fail
          refine (ref_Column _ _ HSZ.out).mono ?_
          rintro e w' ⟨rfl,rfl⟩
          rw [HC.out,if_neg h1]
          go_wp2_with fail
          exact FIN.out c r 0 _ (by rw [HP.out,if_neg (by omega)]) rfl rfl rfl
   ·have HZ:=Lib.hid hz
    have hzb : (0 : Int) < (letV s[k] : Int):=by omega
    have hsn:=take_snoc8 s k hlt
    have HS:=Lib.hid hsn
    clear hsn hz
    go_wp2_with (go_at_call 131; refine (ref_letter s[k] _).mono ?_; rintro e w' ⟨rfl,rfl⟩)
    go_round
    case rel =>
     refine ⟨k + 1,by omega,by go_num,?_⟩
     rw [HS.out]; exact all_snoc _ _ HA.out ((isLet_iff _).2 HZ.out)
    case measure => simp [intOf]; omega
  ·have hke : k = s.size:=by omega
   subst hke
   have HD:=Lib.hid (drop_size s)
   by_cases hk0 : s.size = 0
   ·have hkb : ((s.size : Int) == 0) = true:=by rw [beq_iff_eq]; omega
    have HK:=Lib.hid hk0
    clear hk0
    go_wp2_with fail
    exact FIN.out 0 0 4 _ (by rw [parseS_at _ s.size HA.out (.inl HD.out),if_pos (.inr (.inl HD.out))]) rfl rfl rfl
   ·have hkb : ((s.size : Int) == 0) = false:=by rw [beq_eq_false_iff_ne]; omega
    have HK:=Lib.hid hk0
    clear hk0
    go_wp2_with fail
    exact FIN.out 0 0 4 _ (by rw [parseS_at _ s.size HA.out (.inl HD.out),if_pos (.inr (.inl HD.out))]) rfl rfl rfl
end Go.Proofs.YtjbimcdofenmdaaGreatDoor
