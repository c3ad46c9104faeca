/- Contracts of the reference: numbers as text, quotes. Plain facts on the text of a range: what is written is read as the range; what is read is a range. -/
import Derived.Test.YtjbimcdofenmdaaGreatDoorMRectF
import Derived.Test.YtjbimcdofenmdaaGreatDoorMAddrW3
import Derived.Test.YtjbimcdofenmdaaGreatDoorMLexO
import Derived.Test.YtjbimcdofenmdaaGreatDoorMRectU
namespace Go.Proofs.YtjbimcdofenmdaaGreatDoor
open Go.RowKit
open Go.Lib (decDigits)
theorem digits_last (n : Nat) (h : n / 10 = 0) : decDigits n = [UInt8.ofNat (48 + n % 10)]:=by
 rw [decDigits,dif_pos (by omega),Nat.mod_eq_of_lt (by omega)]
theorem digits_step (n : Nat) (h : n / 10 ≠ 0) : decDigits n = decDigits (n / 10) ++ [UInt8.ofNat (48 + n % 10)]:=by
 rw [decDigits,dif_neg (by omega)]
theorem digits_le (n : Nat) (h : n < 18446744073709551616) : (decDigits n).length ≤ 20:=by
 have key : ∀ (k n : Nat),n < 10 ^ (k + 1) → (decDigits n).length ≤ k + 1:=by
  intro k
  induction k with
  | zero => intro n hn; rw [digits_last n (by omega)]; simp
  | succ k ih =>
   intro n hn
   by_cases hz : n / 10 = 0
   ·rw [digits_last n hz]; simp
   ·rw [digits_step n hz,List.length_append]
    have:=ih (n / 10) (by rw [Nat.pow_succ] at hn; omega)
    simp
    exact this
 exact key 19 n (by omega)
theorem byte_int {b : UInt8} {k : Nat} (h : b ≠ UInt8.ofNat k) (hk : k < 256:=by decide) : ¬ ((b.toNat : Int) = (k : Int)):=by
 intro e
 apply h
 rw [← UInt8.toNat_inj,UInt8.toNat_ofNat']
 omega
theorem ref1_Digits (n : Nat) (w : World) (hn : n < 18446744073709551616) :
  Calls Tryz.prog 52 #[.int .u64 (n : Int)] w fun e w' => e = .returned (.string ⟨(decDigits n).toArray⟩) ∧ Below w.heap.size w w':=by
 have hcv:=fun (W : World) (x : Int) => run_byte1 (P:=Tryz.prog) 69 9 5 Tryz.underlying69 Tryz.underlying5 Tryz.underlying9 W x 5
 have HL:=keep (digits_le n hn)
 go_enter Tryz.func52,Tryz.ntmps52
 go_wp2
 go_loopw [0,3] (fun k s wr => ∃ (m : Nat) (acc : List UInt8),m ≤ n ∧ acc.length ≤ 20 ∧ k = .int .u64 m ∧ s = .string ⟨acc.toArray⟩ ∧ decDigits n = decDigits m ++ acc ∧ Below w.heap.size w wr) (fun k _ _ => (intOf k).toNat)
 case atStart => exact ⟨n,[],Nat.le_refl _,by simp,rfl,rfl,by simp,Below.refl _ _⟩
 case round =>
  obtain ⟨m,acc,hm,hl,rfl,rfl,hacc,hb⟩:=hrel
  have HA:=Lib.hid hacc
  have HB:=Lib.hid hb
  clear hacc hb
  by_cases h0 : m ≤ 9
  ·go_wp2
   go_ret
   refine ⟨?_,HB.out.alloc HB.out.size _⟩
   have e:=HA.out
   rw [dec_small (show m < 10 from by omega),show UInt8.ofNat (48 + m) = 48 + UInt8.ofNat m from by simp] at e
   rw [e]
   exact congrArg (fun x => Ending.returned (Value.string x)) (bytes_append [_] acc)
  ·go_wp2
   go_roundw
   case measure => simp [intOf]; omega
   case rel =>
    have e : decDigits n = decDigits (m / 10) ++ ((48 + UInt8.ofNat (m % 10)) :: acc):=by
     rw [HA.out,dec_big (show ¬ m < 10 from by omega),show UInt8.ofNat (48 + m % 10) = 48 + UInt8.ofNat (m % 10) from by simp]; simp
    have hl2:=congrArg List.length e
    rw [List.length_append] at hl2
    have:=HL.out
    exact ⟨m / 10,(48 + UInt8.ofNat (m % 10)) :: acc,by omega,by omega,by congr 1,congrArg Value.string (bytes_append [_] acc),e,HB.out.alloc HB.out.size _⟩
set_option maxRecDepth 100000 in
theorem ref4_Plain (s : ByteArray) (w : World) (hs : s.size ≤ 4611686018427387904) :
  Calls Tryz.prog 36 #[.string s] w fun e w' => e = .returned (.bool (s.data.toList.all plainB)) ∧ w' = w:=by
 have HSL:=keep (show s.data.toList.length = s.size by rw [Array.length_toList]; rfl)
 obtain ⟨p,hp⟩ : ∃ p,s.data.toList.all plainB = p:=⟨_,rfl⟩
 rw [hp]
 have HPP:=keep hp
 clear hp
 go_enter Tryz.func36,Tryz.ntmps36
 go_wp2_with fail
 go_loopw [3] (fun iv wr => ∃ k : Nat,k ≤ s.size ∧ iv = .int .i64 (k : Int) ∧ Keep (∀ b ∈ s.data.toList.take k,plainB b = true) ∧ wr = w) (fun iv _ => s.size - (intOf iv).toNat)
 case atStart => exact ⟨0,Nat.zero_le _,rfl,keep (by simp),rfl⟩
 case round =>
  obtain ⟨k,hk,rfl,HP,hwr⟩:=hrel
  obtain rfl : w = wr:=hwr.symm
  by_cases hlt : (k : Int) < s.size
  ·have hks : k < s.size:=by omega
   have hno : plainB (s[k]'hks) = false → p = false:=fun h => by
    rw [← HPP.out,List.all_eq_false]
    refine ⟨s[k]'hks,?_,by rw [h]; decide⟩
    show s.data.toList[k]'(by rw [HSL.out]; exact hks) ∈ _
    exact List.getElem_mem _
   rcases (show (((s[k]'hks).toNat : Int) < 32) ∨ (32 ≤ ((s[k]'hks).toNat : Int) ∧ 126 < ((s[k]'hks).toNat : Int)) ∨ (32 ≤ ((s[k]'hks).toNat : Int) ∧ ((s[k]'hks).toNat : Int) ≤ 126) by omega) with h1 | ⟨h1,h2⟩ | ⟨h1,h2⟩
   ·have HB:=keep (hno (by unfold plainB; simp; omega))
    clear hno
    go_wp2_with fail
    go_ret
    exact ⟨by rw [HB.out]; rfl,rfl⟩
   ·have HB:=keep (hno (by unfold plainB; simp; omega))
    clear hno
    go_wp2_with fail
    go_ret
    exact ⟨by rw [HB.out]; rfl,rfl⟩
   ·have HB:=keep (show ∀ b ∈ s.data.toList.take (k + 1),plainB b = true by
     intro b hb
     rw [List.take_succ_eq_append_getElem (by rw [HSL.out]; exact hks)] at hb
     rcases List.mem_append.1 hb with hb | hb
     ·exact HP.out b hb
     ·simp at hb
      subst hb
      show plainB (s[k]'hks) = true
      unfold plainB
      simp; omega)
    clear hno
    go_wp2_with fail
    go_roundw
    case rel => exact ⟨k + 1,by omega,by go_num,HB,by first | trivial | rfl⟩
    case measure => simp [intOf]; omega
  ·obtain rfl : k = s.size:=by omega
   have HA:=keep (show p = true by
    rw [← HPP.out,List.all_eq_true]
    exact fun b hb => HP.out b (by rw [← HSL.out,List.take_length]; exact hb))
   go_wp2_with fail
   go_ret
   exact ⟨by rw [HA.out]; rfl,rfl⟩
theorem ref4_Check (s : ByteArray) (w : World) (hs : s.size ≤ 4611686018427387904) :
  Calls Tryz.prog 54 #[.string s] w fun e w' => e = .returned (.int .i64 (checkT s.data.toList)) ∧ w' = w:=by
 have hl : s.data.toList.length = s.size:=by rw [Array.length_toList]; rfl
 by_cases h : (s.size : Int) > 256
 ·have HC:=keep (show checkT s.data.toList = 5 by unfold checkT; rw [if_pos (by omega)])
  clear hl
  go_enter Tryz.func54,Tryz.ntmps54
  go_wp2_with fail
  go_ret
  exact ⟨by rw [HC.out]; rfl,rfl⟩
 ·have HC:=keep (show checkT s.data.toList = if s.data.toList.all plainB then 0 else 4 by unfold checkT; rw [if_neg (by omega)])
  clear hl
  obtain ⟨p,hp⟩ : ∃ p,s.data.toList.all plainB = p:=⟨_,rfl⟩
  have HP:=keep hp
  clear hp
  cases p
  ·have HC2:=keep (show checkT s.data.toList = 4 by rw [HC.out,HP.out]; rfl)
   go_enter Tryz.func54,Tryz.ntmps54
   go_wp2_with fail
   refine (ref4_Plain s _ hs).mono ?_
   rintro e w1 ⟨rfl,hw⟩
   obtain rfl : w = w1:=hw.symm
   rw [HP.out]
   go_wp2_with fail
   go_ret
   exact ⟨by rw [HC2.out]; rfl,rfl⟩
  ·have HC2:=keep (show checkT s.data.toList = 0 by rw [HC.out,HP.out]; rfl)
   go_enter Tryz.func54,Tryz.ntmps54
   go_wp2_with fail
   refine (ref4_Plain s _ hs).mono ?_
   rintro e w1 ⟨rfl,hw⟩
   obtain rfl : w = w1:=hw.symm
   rw [HP.out]
   go_wp2_with fail
   go_ret
   exact ⟨by rw [HC2.out]; rfl,rfl⟩
set_option maxRecDepth 100000 in
set_option maxHeartbeats 4000000 in
theorem ref4_Quote (s : ByteArray) (w : World) (hs : s.size ≤ 4611686018427387904) :
  Calls Tryz.prog 32 #[.string s] w fun e w' => e = .returned (.tuple #[.string ⟨(quoteT s.data.toList).toArray⟩,.int .i64 (checkT s.data.toList)]) ∧ Below w.heap.size w w':=by
 obtain ⟨i0,hi,hz0,hz1,hz2⟩:=info_parts info_u8
 have HSL:=keep (show s.data.toList.length = s.size by rw [Array.length_toList]; rfl)
 obtain ⟨c,hc⟩ : ∃ c,checkT s.data.toList = c:=⟨_,rfl⟩
 have HC:=keep hc
 clear hc
 by_cases h0 : c = 0
 ·subst h0
  have h256 : s.size ≤ 256:=by
   have h9:=HC.out
   unfold checkT at h9
   rw [HSL.out] at h9
   split at h9
   ·cases h9
   ·omega
  go_enter Tryz.func32,Tryz.ntmps32
  go_wp2_with fail
  refine (ref4_Check s _ hs).mono ?_
  rintro e w1 ⟨rfl,hw⟩
  obtain rfl : w = w1:=hw.symm
  rw [HC.out]
  go_upto_region 5 with fail
  have H0:=Lib.hid (show OkRow w [] 5 1 (.slice (some ⟨w.heap.size,0,none⟩) 1 1) ([34] : List UInt8).length (bytesV [34]) (w.alloc (.cells #[.int .u8 34] 5)) from OkRow.of_new (Ok.start w) ((Below.refl _ _).alloc (Nat.le_refl _) _) (World.ownsRow_lit w #[.int .u8 34] 1 (Nat.le_refl _) (by decide) rfl))
  generalize (w.alloc (.cells #[.int .u8 34] 5)) = W0 at H0 ⊢
  go_wp2_with fail
  go_loopw [5,6] (fun ov iv wr => ∃ (k : Nat) (l : List UInt8),k ≤ s.size ∧ iv = .int .i64 (k : Int) ∧ l.length ≤ 2 * k + 1 ∧ Keep (l = 34 :: (s.data.toList.take k).flatMap quoteB) ∧ Hid (OkRow w [] 5 1 ov l.length (bytesV l) wr)) (fun _ iv _ => s.size - (intOf iv).toNat)
  case atStart => exact ⟨0,[34],Nat.zero_le _,rfl,by decide,keep (by rw [List.take_zero]; rfl),H0⟩
  case round =>
   clear H0
   obtain ⟨k,l,hk,rfl,hll,HQ,H⟩:=hrel
   obtain ⟨wp,rfl⟩ : ∃ wp : World,wp = wr:=⟨_,rfl⟩
   by_cases hlt : (k : Int) < s.size
   ·have hks : k < s.size:=by omega
    obtain ⟨b,hb⟩ : ∃ b,s[k]'hks = b:=⟨_,rfl⟩
    have hbi : ∀ h,((s[k]'h).toNat : Int) = (b.toNat : Int):=fun _ => by rw [hb]
    have HQ2:=keep (show 34 :: (s.data.toList.take (k + 1)).flatMap quoteB = l ++ quoteB b by
     rw [List.take_succ_eq_append_getElem (by rw [HSL.out]; exact hks),List.flatMap_append,HQ.out,show s.data.toList[k]'(by rw [HSL.out]; exact hks) = b from hb]
     simp)
    clear hb
    by_cases h34 : b = 34
    ·subst h34
     go_upto_region 9 with (at_builtin; refine wpList_append_lies _ rfl _ _ _ rfl w.heap.size 5 i0 _ 1 1 Tryz.underlying69 hi hz0 hz1 hz2 rfl (by omega) _ _ _ rfl (H.out.own.alloc _) ⟨wp.heap.size,0,none⟩ 1 1 [.int .u8 (34 : UInt8).toNat] rfl rfl (World.news_of_block (cs:=#[.int .u8 (34 : UInt8).toNat]) (t:=5) (fr:=(0,0)) (heap_alloc_new _ _)) (by intro u hu; simp at hu; rcases hu with rfl; rfl) (by omega) (by unfold maxLen; omega) (by omega) (by have:=H.out.ok.bel.size; simp; omega) _ rfl ?_; intro g3 cap3 w3 hown3 hgrow3 hat3 hlt3)
     obtain ⟨m,hm⟩ : ∃ m,l ++ [34] = m:=⟨_,rfl⟩
     have hml : l.length + 1 = m.length:=by rw [← hm]; simp
     have H3:=Lib.hid (show OkRow w [] 5 1 (.slice (some ⟨g3,0,none⟩) m.length cap3) m.length (bytesV m) w3 by rw [← hml,← hm,bytesV_snoc]; exact (H.out.alloc_obj _).appended hown3 hgrow3 hat3)
     have HMM:=keep hm
     have HML:=keep hml
     have hm600 : m.length ≤ 600:=by omega
     rw [hml]
     clear hown3 hgrow3 hat3 hlt3 H hm hml
     go_wp2_with (at_builtin; refine wpList_append_lies _ rfl _ _ _ rfl w.heap.size 5 i0 _ 1 1 Tryz.underlying69 hi hz0 hz1 hz2 rfl (by omega) _ _ _ rfl (H3.out.own.alloc _) ⟨w3.heap.size,0,none⟩ 1 1 [.int .u8 (34 : UInt8).toNat] rfl rfl (World.news_of_block (cs:=#[.int .u8 (34 : UInt8).toNat]) (t:=5) (fr:=(0,0)) (heap_alloc_new _ _)) (by intro u hu; simp at hu; rcases hu with rfl; rfl) (by omega) (by unfold maxLen; omega) (by omega) (by have:=H3.out.ok.bel.size; simp; omega) _ rfl ?_; intro g4 cap4 w4 hown4 hgrow4 hat4 hlt4)
     go_roundw
     case rel => exact ⟨k + 1,m ++ [34],by omega,by go_num,by have:=HML.out; simp; omega,keep (by rw [HQ2.out,← HMM.out]; simp [quoteB]),by rw [bytesV_snoc,List.length_append]; exact (H3.out.alloc_obj _).appended hown4 hgrow4 hat4⟩
     case measure => simp [intOf]; omega
    ·have hb34 : ((b.toNat : Int) == 34) = false:=by simpa using byte_int (k:=34) h34
     have HQ3:=keep (show quoteB b = [b] by unfold quoteB; rw [if_neg h34])
     clear h34
     go_wp2_with (at_builtin; refine wpList_append_lies _ rfl _ _ _ rfl w.heap.size 5 i0 _ 1 1 Tryz.underlying69 hi hz0 hz1 hz2 rfl (by omega) _ _ _ rfl (H.out.own.alloc _) ⟨wp.heap.size,0,none⟩ 1 1 [.int .u8 b.toNat] rfl rfl (World.news_of_block (cs:=#[.int .u8 b.toNat]) (t:=5) (fr:=(0,0)) (heap_alloc_new _ _)) (by intro u hu; simp at hu; rcases hu with rfl; rfl) (by omega) (by unfold maxLen; omega) (by omega) (by have:=H.out.ok.bel.size; simp; omega) _ rfl ?_; intro g3 cap3 w3 hown3 hgrow3 hat3 hlt3)
     go_roundw
     case rel => exact ⟨k + 1,l ++ [b],by omega,by go_num,by simp; omega,keep (by rw [HQ2.out,HQ3.out]),by rw [bytesV_snoc,List.length_append]; exact (H.out.alloc_obj _).appended hown3 hgrow3 hat3⟩
     case measure => simp [intOf]; omega
   ·obtain rfl : k = s.size:=by omega
    have HE:=keep (show quoteT s.data.toList = l ++ [34] by
     unfold quoteT
     rw [if_pos HC.out,HQ.out]
     unfold quoteS
     rw [← HSL.out,List.take_length]
     rfl)
    go_wp2_with (at_builtin; refine wpList_append_lies _ rfl _ _ _ rfl w.heap.size 5 i0 _ 1 1 Tryz.underlying69 hi hz0 hz1 hz2 rfl (by omega) _ _ _ rfl (H.out.own.alloc _) ⟨wp.heap.size,0,none⟩ 1 1 [.int .u8 (34 : UInt8).toNat] rfl rfl (World.news_of_block (cs:=#[.int .u8 (34 : UInt8).toNat]) (t:=5) (fr:=(0,0)) (heap_alloc_new _ _)) (by intro u hu; simp at hu; rcases hu with rfl; rfl) (by omega) (by unfold maxLen; omega) (by omega) (by have:=H.out.ok.bel.size; simp; omega) _ rfl ?_; intro g3 cap3 w3 hown3 hgrow3 hat3 hlt3; have hcv:=own_string (l:=l ++ [34]) (show w3.ownsRow w.heap.size 5 1 (.slice (some ⟨g3,0,none⟩) (l.length + 1) cap3) (l ++ [34]).length (bytesV (l ++ [34])) by rw [bytesV_snoc,List.length_append]; exact hown3))
    have H3:=Lib.hid (show OkRow w [] 5 1 (.slice (some ⟨g3,0,none⟩) (l.length + 1) cap3) (l ++ [34]).length (bytesV (l ++ [34])) w3 by rw [bytesV_snoc,List.length_append]; exact (H.out.alloc_obj _).appended hown3 hgrow3 hat3)
    exact bodyPost_ret (v:=.tuple #[.string ⟨(l ++ [34]).toArray⟩,.int .i64 0]) (by simp [results,Tryz.results32,go_sem]) rfl ⟨by rw [HE.out,HC.out],H3.out.ok.bel⟩
 ·have h0b : (c != 0) = true:=by simpa using h0
  have HE:=keep (show quoteT s.data.toList = [] by unfold quoteT; rw [HC.out,if_neg h0])
  clear h0
  go_enter Tryz.func32,Tryz.ntmps32
  go_wp2_with fail
  refine (ref4_Check s _ hs).mono ?_
  rintro e w1 ⟨rfl,hw⟩
  obtain rfl : w = w1:=hw.symm
  rw [HC.out]
  go_wp2_with fail
  exact bodyPost_ret (v:=.tuple #[.string ⟨#[]⟩,.int .i64 c]) (by simp [results,Tryz.results32,go_sem]) rfl ⟨by rw [HE.out,HC.out],Below.refl _ _⟩
end Go.Proofs.YtjbimcdofenmdaaGreatDoor
namespace Go.Proofs.YtjbimcdofenmdaaGreatDoor
open Go.RowKit
theorem let_58 (b : UInt8) (h : isLet b = true) : b ≠ 58:=by
 rintro rfl
 exact absurd h (by decide)
theorem dig_58 (b : UInt8) (h : isDig b = true) : b ≠ 58:=by
 rintro rfl
 exact absurd h (by decide)
theorem format_58 (c r : Int) : ∀ b ∈ (formatS c r).1,b ≠ 58:=by
 intro b hb
 cases hv : validN c r
 ·rw [formatS_bad c r hv] at hb; simp at hb
 ·rw [formatS_good c r hv] at hb
  rcases List.mem_append.1 hb with h | h
  ·exact let_58 b (letters_let _ b h)
  ·exact dig_58 b (List.all_eq_true.1 (dec_dig _) b h)
theorem cut_fmt1 (l : List UInt8) (h : ∀ b ∈ l,b ≠ 58) : Lib.cut l [58] = (l,[],false):=cut_none l fun _ _ => h _ (List.getElem_mem _)
theorem cut_fmt2 (l k : List UInt8) (h : ∀ b ∈ l,b ≠ 58) : Lib.cut (l ++ 58 :: k) [58] = (l,k,true):=by
 have:=cut_colon (l ++ 58 :: k) l.length (by simp) (fun j hj => by rw [List.getElem_append_left hj]; exact h _ (List.getElem_mem _)) (by simp)
 rw [this]
 simp
theorem parse_fmt (r : R4) (h : checkB r = true) : parseR (fmtL r) = (r,0):=by
 obtain ⟨a1,a2,a3,a4⟩:=r
 obtain ⟨h1,h2⟩:=check_valid h
 have hc:=(checkB_iff _).1 h
 simp only [] at hc
 have p1:=parse_format a1 a2 h1
 have p2:=parse_format a3 a4 h2
 unfold parseR fromS toS
 by_cases he : a1 = a3 ∧ a2 = a4
 ·rw [fmtL_one _ he,cut_fmt1 _ (format_58 _ _)]
  obtain ⟨rfl,rfl⟩:=he
  simp only [Bool.false_eq_true,if_false]
  rw [p1]
  simp [parseAB]
 ·rw [(fmtL_two _ h he).1,cut_fmt2 _ _ (format_58 _ _)]
  simp only [if_true]
  rw [p1,p2]
  simp [parseAB]
  omega
theorem parse_check (l : List UInt8) (h : (parseR l).2 = 0) : checkB (parseR l).1 = true:=by
 unfold parseR at h ⊢
 have ka:=parse_ok (fromS l)
 have kb:=parse_ok (toS l)
 generalize parseS (fromS l) = A at h ka ⊢
 generalize parseS (toS l) = B at h kb ⊢
 obtain ⟨A1,A2,A3⟩:=A
 obtain ⟨B1,B2,B3⟩:=B
 unfold parseAB at h ⊢
 simp only [] at h ka kb ⊢
 by_cases h4 : A3 = 4 ∨ B3 = 4
 ·rw [if_pos h4] at h; simp at h
 ·rw [if_neg h4] at h ⊢
  by_cases h3 : A3 ≠ 0 ∨ B3 ≠ 0
  ·rw [if_pos h3] at h; simp at h
  ·rw [if_neg h3]
   have va:=validN_parts (ka (by omega)).1
   have vb:=validN_parts (kb (by omega)).1
   rw [checkB_iff]
   simp only []
   omega
theorem fmtL_len (r : R4) : (fmtL r).length ≤ 6001:=by
 have h1:=format_len r.c1 r.r1
 have h2:=format_len r.c2 r.r2
 unfold fmtL
 split <;> simp <;> omega
theorem rect_Parse_l (l : List UInt8) (m : Int) (w : World) (hs : l.length < 4294967281) (hm : w.cell? ⟨2,0,none⟩ = some (.int .i64 m)) :
  Calls Tryz.prog 90 #[.string ⟨l.toArray⟩] w fun e w' => e = .returned (.tuple #[.agg #[.int .i64 (parseR l).1.c1,.int .i64 (parseR l).1.r1,.int .i64 (parseR l).1.c2,.int .i64 (parseR l).1.r2],.int .i64 (parseR l).2]) ∧ Below w.heap.size w w':=rect_Parse ⟨l.toArray⟩ m w hs hm
end Go.Proofs.YtjbimcdofenmdaaGreatDoor
