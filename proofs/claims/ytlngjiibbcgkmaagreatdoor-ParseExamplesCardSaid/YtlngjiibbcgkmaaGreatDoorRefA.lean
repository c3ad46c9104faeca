/- Contracts of the reference's tests of bytes, and of the end of a word. The contract of the reference's Upper. Contracts of the reference lexer's number and text. Contracts of the reference lexer's text, address and begins. -/
import Derived.Test.YtlngjiibbcgkmaaGreatDoorLexC
import Derived.Test.YtlngjiibbcgkmaaGreatDoorOk
import Derived.Test.YtlngjiibbcgkmaaGreatDoorLexJ
import Derived.Test.YtlngjiibbcgkmaaGreatDoorAddrR
import Derived.Test.YtlngjiibbcgkmaaGreatDoorLexK
namespace Go.Proofs.YtlngjiibbcgkmaaGreatDoor
section
open Go.RowKit
def testAt (p : UInt8 → Bool) (s : ByteArray) (i : Nat) : Bool:=s.data.toList[i]?.any p
theorem test_in {p : UInt8 → Bool} {s : ByteArray} {i : Nat} (h : i < s.size) : testAt p s i = p (s[i]'h):=by
 unfold testAt
 rw [List.getElem?_eq_getElem (by rw [Array.length_toList]; exact h)]
 rfl
theorem test_out {p : UInt8 → Bool} {s : ByteArray} {i : Nat} (h : ¬ i < s.size) : testAt p s i = false:=by
 unfold testAt
 rw [List.getElem?_eq_none (by rw [Array.length_toList]; exact Nat.le_of_not_lt h)]
 rfl
set_option maxRecDepth 100000 in
theorem ref7_digit (s : ByteArray) (i : Nat) (w : World) :
  Calls Tryz.prog 69 #[.string s,.int .i64 (i : Int)] w fun e w' => e = .returned (.bool (testAt isDig s i)) ∧ w' = w:=by
 by_cases hlt : (i : Int) < s.size
 ·have hi : i < s.size:=by omega
  have hd:=(test_in (p:=isDig) hi).trans (dig_int (s[i]'hi))
  have HD:=keep hd
  clear hd
  by_cases h1 : 48 ≤ ((s[i]'hi).toNat : Int)
  ·by_cases h2 : ((s[i]'hi).toNat : Int) ≤ 57
   ·have HE:=keep (show testAt isDig s i = true by rw [HD.out]; simp; omega)
    go_enter Tryz.func69,Tryz.ntmps69
    go_wp2_with fail
    go_ret
    exact ⟨by rw [HE.out]; rfl,rfl⟩
   ·have HE:=keep (show testAt isDig s i = false by rw [HD.out]; simp; omega)
    go_enter Tryz.func69,Tryz.ntmps69
    go_wp2_with fail
    go_ret
    exact ⟨by rw [HE.out]; rfl,rfl⟩
  ·have HE:=keep (show testAt isDig s i = false by rw [HD.out]; simp; omega)
   go_enter Tryz.func69,Tryz.ntmps69
   go_wp2_with fail
   go_ret
   exact ⟨by rw [HE.out]; rfl,rfl⟩
 ·have HE:=keep (test_out (p:=isDig) (s:=s) (i:=i) (by omega))
  go_enter Tryz.func69,Tryz.ntmps69
  go_wp2_with fail
  go_ret
  exact ⟨by rw [HE.out]; rfl,rfl⟩
theorem let_int (b : UInt8) : isLet b = decide ((65 ≤ (b.toNat : Int) ∧ (b.toNat : Int) ≤ 90) ∨ (97 ≤ (b.toNat : Int) ∧ (b.toNat : Int) ≤ 122)):=by
 rw [Bool.eq_iff_iff,let_iff,decide_eq_true_eq]
 omega
set_option maxRecDepth 100000 in
theorem ref7_letter (s : ByteArray) (i : Nat) (w : World) :
  Calls Tryz.prog 72 #[.string s,.int .i64 (i : Int)] w fun e w' => e = .returned (.bool (testAt isLet s i)) ∧ w' = w:=by
 by_cases hlt : (i : Int) < s.size
 ·have hi : i < s.size:=by omega
  have hd:=(test_in (p:=isLet) hi).trans (let_int (s[i]'hi))
  have HD:=keep hd
  clear hd
  rcases (show (((s[i]'hi).toNat : Int) < 65) ∨ (65 ≤ ((s[i]'hi).toNat : Int) ∧ ((s[i]'hi).toNat : Int) ≤ 90) ∨ (90 < ((s[i]'hi).toNat : Int) ∧ ((s[i]'hi).toNat : Int) < 97) ∨ (97 ≤ ((s[i]'hi).toNat : Int) ∧ ((s[i]'hi).toNat : Int) ≤ 122) ∨ 122 < ((s[i]'hi).toNat : Int) from by omega) with h1 | ⟨h1,h2⟩ | ⟨h1,h2⟩ | ⟨h1,h2⟩ | h1
  ·have h3 : ((s[i]'hi).toNat : Int) < 97:=by omega
   have HE:=keep (show testAt isLet s i = false by rw [HD.out]; simp; omega)
   go_enter Tryz.func72,Tryz.ntmps72
   go_wp2_with fail
   go_ret
   exact ⟨by rw [HE.out]; simp <;> omega,rfl⟩
  ·have HE:=keep (show testAt isLet s i = true by rw [HD.out]; simp; omega)
   go_enter Tryz.func72,Tryz.ntmps72
   go_wp2_with fail
   go_ret
   exact ⟨by rw [HE.out]; simp <;> omega,rfl⟩
  ·have h3 : 65 ≤ ((s[i]'hi).toNat : Int):=by omega
   have HE:=keep (show testAt isLet s i = false by rw [HD.out]; simp; omega)
   go_enter Tryz.func72,Tryz.ntmps72
   go_wp2_with fail
   go_ret
   exact ⟨by rw [HE.out]; simp <;> omega,rfl⟩
  ·have h3 : 65 ≤ ((s[i]'hi).toNat : Int):=by omega
   have h4 : 90 < ((s[i]'hi).toNat : Int):=by omega
   have HE:=keep (show testAt isLet s i = true by rw [HD.out]; simp; omega)
   go_enter Tryz.func72,Tryz.ntmps72
   go_wp2_with fail
   go_ret
   exact ⟨by rw [HE.out]; simp <;> omega,rfl⟩
  ·have h3 : 65 ≤ ((s[i]'hi).toNat : Int):=by omega
   have h4 : 90 < ((s[i]'hi).toNat : Int):=by omega
   have h5 : 97 ≤ ((s[i]'hi).toNat : Int):=by omega
   have HE:=keep (show testAt isLet s i = false by rw [HD.out]; simp; omega)
   go_enter Tryz.func72,Tryz.ntmps72
   go_wp2_with fail
   go_ret
   exact ⟨by rw [HE.out]; simp <;> omega,rfl⟩
 ·have HE:=keep (test_out (p:=isLet) (s:=s) (i:=i) (by omega))
  go_enter Tryz.func72,Tryz.ntmps72
  go_wp2_with fail
  go_ret
  exact ⟨by rw [HE.out]; simp <;> omega,rfl⟩
theorem wrd_step (s : ByteArray) (i : Nat) : testAt isWrd s i = (testAt isLet s i || testAt isDig s i):=by
 unfold testAt
 cases s.data.toList[i]? <;> rfl
theorem wrd_run (s : ByteArray) (i : Nat) : (wrdRun s i).length = if testAt isWrd s i = true then (wrdRun s (i + 1)).length + 1 else 0:=by
 unfold wrdRun testAt
 cases h : s.data.toList[i]? with
 | none =>
  rw [List.drop_of_length_le (List.getElem?_eq_none_iff.1 h)]
  rfl
 | some b =>
  obtain ⟨hi,rfl⟩:=List.getElem?_eq_some_iff.1 h
  rw [List.drop_eq_getElem_cons hi,List.takeWhile_cons]
  show _ = if isWrd s.data.toList[i] = true then _ else _
  split <;> simp
set_option maxRecDepth 100000 in
theorem ref7_wordEnd (s : ByteArray) (i : Nat) (w : World) (hs : s.size ≤ 4611686018427387904) (hi : i ≤ s.size) :
  Calls Tryz.prog 105 #[.string s,.int .i64 (i : Int)] w fun e w' => e = .returned (.int .i64 ((i + (wrdRun s i).length : Nat) : Int)) ∧ w' = w:=by
 obtain ⟨z,hz⟩ : ∃ z,i + (wrdRun s i).length = z:=⟨_,rfl⟩
 rw [hz]
 have HZ:=keep hz
 clear hz
 go_enter Tryz.func105,Tryz.ntmps105
 go_wp2_with fail
 go_loopw [1] (fun iv wr => ∃ k : Nat,k ≤ s.size ∧ iv = .int .i64 (k : Int) ∧ Keep (k + (wrdRun s k).length = z) ∧ wr = w) (fun iv _ => s.size - (intOf iv).toNat)
 case atStart => exact ⟨i,hi,rfl,HZ,rfl⟩
 case round =>
  obtain ⟨k,hk,rfl,HX,rfl⟩:=hrel
  have hst:=wrd_step s k
  have hrn:=wrd_run s k
  have hout : k = s.size → testAt isWrd s k = false:=fun e => test_out (by omega)
  cases hL : testAt isLet s k
  ·cases hD : testAt isDig s k
   ·rw [hL,hD] at hst
    rw [hst] at hrn
    have hz2:=HX.out
    rw [hrn] at hz2
    have HZ2:=keep hz2
    have HLL:=keep hL
    have HDD:=keep hD
    clear hst hrn hout hL hD hz2
    go_wp2_with fail
    refine (ref7_letter s k _).mono ?_
    rintro e w2 ⟨rfl,hw2⟩
    subst hw2
    rw [HLL.out]
    go_wp2_with fail
    refine (ref7_digit s k _).mono ?_
    rintro e w3 ⟨rfl,hw3⟩
    subst hw3
    rw [HDD.out]
    go_wp2_with fail
    go_ret
    exact ⟨by rw [← HZ2.out]; rfl,rfl⟩
   ·rw [hL,hD] at hst
    have hkl : k < s.size:=Nat.lt_of_le_of_ne hk (fun e => by rw [hout e] at hst; cases hst)
    rw [hst] at hrn
    have hz2:=HX.out
    rw [hrn] at hz2
    have HZ2:=keep hz2
    have HLL:=keep hL
    have HDD:=keep hD
    clear hst hrn hout hL hD hz2
    go_wp2_with fail
    refine (ref7_letter s k _).mono ?_
    rintro e w2 ⟨rfl,hw2⟩
    subst hw2
    rw [HLL.out]
    go_wp2_with fail
    refine (ref7_digit s k _).mono ?_
    rintro e w3 ⟨rfl,hw3⟩
    subst hw3
    rw [HDD.out]
    go_wp2_with fail
    go_roundw
    case rel => exact ⟨k + 1,by omega,by go_num,keep (by have h9:=HZ2.out; simp at h9; omega),by first | trivial | rfl⟩
    case measure => simp [intOf]; omega
  ·rw [hL] at hst
   have hkl : k < s.size:=Nat.lt_of_le_of_ne hk (fun e => by rw [hout e] at hst; cases hst)
   rw [Bool.true_or] at hst
   rw [hst] at hrn
   have hz2:=HX.out
   rw [hrn] at hz2
   have HZ2:=keep hz2
   have HLL:=keep hL
   clear hst hrn hout hL hz2
   go_wp2_with fail
   refine (ref7_letter s k _).mono ?_
   rintro e w2 ⟨rfl,hw2⟩
   subst hw2
   rw [HLL.out]
   go_wp2_with fail
   go_roundw
   case rel => exact ⟨k + 1,by omega,by go_num,keep (by have h9:=HZ2.out; simp at h9; omega),by first | trivial | rfl⟩
   case measure => simp [intOf]; omega
end
section
open Go.RowKit
set_option maxHeartbeats 1000000 in
theorem ref4_Upper (s : ByteArray) (w : World) (hs : s.size ≤ 4611686018427387904) :
  Calls Tryz.prog 106 #[.string s] w fun e w' => e = .returned (.string ⟨(s.data.toList.map upB).toArray⟩) ∧ Below w.heap.size w w':=by
 have hcv:=run_bytes_of_string (P:=Tryz.prog) w 9 49 5 s Tryz.underlying9 Tryz.underlying49 Tryz.underlying5
 have hm:=Bytes8.made w.drew s 5 (grownCap w s.size 0 5)
 have hbl : Below w.heap.size w (w.drew.alloc (.cells (bytesRow s (grownCap w s.size 0 5)) 5 ((bytesRow s (grownCap w s.size 0 5)).size,(bytesRow s (grownCap w s.size 0 5)).size + 1))):=(Below.refl _ _).drew.alloc (Nat.le_refl _) _
 generalize (w.drew.alloc (.cells (bytesRow s (grownCap w s.size 0 5)) 5 ((bytesRow s (grownCap w s.size 0 5)).size,(bytesRow s (grownCap w s.size 0 5)).size + 1))) = W0 at hcv hm hbl
 generalize grownCap w s.size 0 5 = cap at hcv
 have HM : Hid (Bytes8 W0 w.heap.size s.data.toList):=hm
 have HB:=Lib.hid hbl
 clear hm hbl
 have hlen : s.data.toList.length = s.size:=by simp
 have HL:=Lib.hid hlen
 clear hlen
 go_enter Tryz.func106,Tryz.ntmps106
 go_wp2_with fail
 go_loopw [4] (fun i wr => ∃ k : Nat,k ≤ s.size ∧ i = .int .i64 k ∧ Hid (Bytes8 wr w.heap.size (upTo s.data.toList k)) ∧ Hid (Below w.heap.size w wr)) (fun i _ => s.size - (intOf i).toNat)
 case atStart => exact ⟨0,Nat.zero_le _,rfl,by simpa [upTo] using HM,HB⟩
 case round =>
  obtain ⟨k,hk,rfl,H1,H2⟩:=hrel
  clear HM HB hcv
  by_cases hlt : k < s.size
  ·have hlt' : k < s.data.toList.length:=by rw [HL.out]; exact hlt
   have hcell:=(H1.out k (by rw [upTo_len]; exact hlt')).1
   have hfroz:=(H1.out k (by rw [upTo_len]; exact hlt')).2
   rw [upTo_at _ _ hlt'] at hcell
   obtain ⟨b,hb⟩ : ∃ b,b = s.data.toList[k]:=⟨_,rfl⟩
   rw [← hb] at hcell
   have HBy:=Lib.hid hb
   have HLT:=Lib.hid hlt'
   have hb8 : b.toNat < 256:=b.toNat_lt
   clear hb
   rcases (show (97 ≤ b.toNat ∧ b.toNat ≤ 122) ∨ b.toNat < 97 ∨ 122 < b.toNat from by omega) with ⟨h1,h2⟩ | h1 | h1
   ·go_wp2_with fail
    go_roundw
    case rel =>
     refine ⟨k + 1,by omega,by go_num,?_,Lib.hid (H2.out.setCell (Nat.le_refl _) _)⟩
     show Bytes8 _ _ _
     rw [upTo_succ _ _ HLT.out,← HBy.out]
     exact H1.out.set_ k (by rw [upTo_len]; exact HLT.out) _ _ (by rw [upB_low b ⟨h1,h2⟩]; omega)
    case measure => simp [intOf]; omega
   ·go_wp2_with fail
    go_roundw
    case rel => exact ⟨k + 1,by omega,by go_num,by rw [upTo_same _ _ HLT.out (by rw [← HBy.out]; exact upB_same b (by omega))]; exact H1,H2⟩
    case measure => simp [intOf]; omega
   ·go_wp2_with fail
    go_roundw
    case rel => exact ⟨k + 1,by omega,by go_num,by rw [upTo_same _ _ HLT.out (by rw [← HBy.out]; exact upB_same b (by omega))]; exact H1,H2⟩
    case measure => simp [intOf]; omega
  ·have hke : upTo s.data.toList k = s.data.toList.map upB:=by
    have : k = s.data.toList.length:=by rw [HL.out]; omega
    unfold upTo
    rw [List.take_of_length_le (by omega),List.drop_eq_nil_of_le (by omega),List.append_nil]
   have h1:=H1.out
   rw [hke] at h1
   have hcv2:=h1.string (P:=Tryz.prog) 49 9 5 Tryz.underlying49 Tryz.underlying5 Tryz.underlying9 cap
   rw [List.length_map,HL.out] at hcv2
   clear h1 hke
   go_wp2_with fail
   go_ret
   exact ⟨rfl,H2.out⟩
end
section
open Go.RowKit
def RefOut (i : Nat) (r : Option (Tk × Nat)) (e : Ending) : Prop:=∃ (t : Tk) (n : Nat),e = .returned (.tuple #[tkA t,.int .i64 (n : Int),.bool r.isSome]) ∧ ∀ x,r = some x → t = x.1 ∧ n = i + x.2
theorem refout_none {i : Nat} {r : Option (Tk × Nat)} (t : Tk) (h : r = none) : RefOut i r (.returned (.tuple #[tkA t,.int .i64 0,.bool false])) :=
 ⟨t,0,by rw [h]; rfl,fun x hx => by rw [h] at hx; cases hx⟩
theorem refout_some {i n : Nat} {r : Option (Tk × Nat)} {t : Tk} (m : Nat) (h : r = some (t,n)) (hm : m = i + n) : RefOut i r (.returned (.tuple #[tkA t,.int .i64 (m : Int),.bool true])) :=
 ⟨t,m,by rw [h]; rfl,fun x hx => by rw [h] at hx; cases hx; exact ⟨rfl,hm⟩⟩
theorem dig_run (s : ByteArray) (i : Nat) : (digRun s i).length = if testAt isDig s i = true then (digRun s (i + 1)).length + 1 else 0:=by
 unfold digRun testAt
 cases h : s.data.toList[i]? with
 | none =>
  rw [List.drop_of_length_le (List.getElem?_eq_none_iff.1 h)]
  rfl
 | some b =>
  obtain ⟨hi,rfl⟩:=List.getElem?_eq_some_iff.1 h
  rw [List.drop_eq_getElem_cons hi,List.takeWhile_cons]
  show _ = if isDig s.data.toList[i] = true then _ else _
  split <;> simp
theorem take_run (p : UInt8 → Bool) (l : List UInt8) : l.take (l.takeWhile p).length = l.takeWhile p:=by
 obtain ⟨h,-,-⟩:=run_split p l
 generalize l.takeWhile p = a at h ⊢
 generalize l.dropWhile p = b at h
 subst h
 exact List.take_left
theorem valD_snoc (l : List UInt8) (b : UInt8) : valD (l ++ [b]) = 10 * valD l + (b.toNat - 48):=by
 unfold valD
 rw [List.foldl_append]
 rfl
theorem valD_le (l m : List UInt8) : valD l ≤ valD (l ++ m):=by
 induction m generalizing l with
 | nil => simp
 | cons b m ih =>
  have h1:=ih (l ++ [b])
  rw [valD_snoc,List.append_assoc] at h1
  simp at h1
  omega
theorem num_over {l a : List UInt8} {i k : Nat} (h0 : (l.takeWhile isDig) ++ placesS (l.dropWhile isDig) ++ List.replicate (4 - (placesS (l.dropWhile isDig)).length) 48 = a) (h : mostN < valD (a.take k)) : numR l i = none:=by
 apply num_great
 unfold numV
 rw [h0]
 have:=valD_le (a.take k) (a.drop k)
 rw [List.take_append_drop] at this
 omega
theorem test_lt {p : UInt8 → Bool} {s : ByteArray} {i : Nat} (h : testAt p s i = true) : i < s.size:=by
 rcases Nat.lt_or_ge i s.size with h1 | h1
 ·exact h1
 ·rw [test_out (by omega)] at h; cases h
theorem places_at {s : ByteArray} {z : Nat} (h : testAt (· == 46) s z = true) : placesS (s.data.toList.drop z) = digRun s (z + 1):=by
 have hz:=test_lt h
 rw [test_in hz] at h
 have e : s[z]'hz = 46:=by simpa using h
 rw [List.drop_eq_getElem_cons (by rw [Array.length_toList]; exact hz)]
 show (if s[z]'hz = 46 then _ else _) = _
 rw [if_pos e]
 rfl
theorem places_off {s : ByteArray} {z : Nat} (h : testAt (· == 46) s z = false) : placesS (s.data.toList.drop z) = []:=by
 apply places_none
 unfold testAt at h
 rw [List.head?_drop]
 intro e
 rw [e] at h
 simp at h
theorem places_dot {s : ByteArray} {z : Nat} (h : testAt isDig s (z + 1) = false) : placesS (s.data.toList.drop z) = []:=by
 cases h4 : testAt (· == 46) s z
 ·exact places_off h4
 ·rw [places_at h4]
  have:=dig_run s (z + 1)
  rw [h] at this
  exact List.length_eq_zero_iff.1 (by simpa using this)
theorem dot_at {s : ByteArray} {z : Nat} (h : z < s.size) : testAt (· == 46) s z = decide (((s[z]'h).toNat : Int) = 46):=by
 rw [test_in h,Bool.eq_iff_iff,beq_iff_eq,decide_eq_true_eq,← UInt8.toNat_inj]
 show _ = 46 ↔ _
 omega
theorem ref7_digitI (s : ByteArray) (j : Int) (i : Nat) (w : World) (hj : j = (i : Int)) :
  Calls Tryz.prog 69 #[.string s,.int .i64 j] w fun e w' => e = .returned (.bool (testAt isDig s i)) ∧ w' = w:=by
 subst hj
 exact ref7_digit s i w
set_option maxRecDepth 100000 in
set_option maxHeartbeats 8000000 in
theorem ref7_number (s : ByteArray) (i : Nat) (w : World) (hs : s.size ≤ 256) (hd : testAt isDig s i = true) :
  Calls Tryz.prog 70 #[.string s,.int .i64 (i : Int)] w fun e w' => RefOut i (numR (restB s i) i) e ∧ Below w.heap.size w w':=by
 have hsl : s.data.toList.length = s.size:=by rw [Array.length_toList]; rfl
 have hi:=test_lt hd
 obtain ⟨hl,hrun,hstop⟩:=run_split isDig (restB s i)
 have hrl : (restB s i).length + i = s.size:=by unfold restB; rw [List.length_drop]; omega
 have hdr : digRun s i = (restB s i).takeWhile isDig:=rfl
 obtain ⟨u,hu⟩ : ∃ u,(restB s i).takeWhile isDig = u:=⟨_,rfl⟩
 obtain ⟨d,hdw⟩ : ∃ d,(restB s i).dropWhile isDig = d:=⟨_,rfl⟩
 rw [hu] at hl hrun hdr
 rw [hdw] at hl hstop
 have hul : 1 ≤ u.length:=by
  have h9:=dig_run s i
  rw [hd,hdr] at h9
  simp at h9
  omega
 obtain ⟨z,hz⟩ : ∃ z,i + u.length = z:=⟨_,rfl⟩
 have hzs : z ≤ s.size:=by rw [hl,List.length_append] at hrl; omega
 have hiz : i < z:=by omega
 have hdz : s.data.toList.drop z = d:=by
  have h9 : s.data.toList.drop z = (restB s i).drop u.length:=by unfold restB; rw [List.drop_drop,hz]
  rw [h9,hl,List.drop_left]
 have hW : (s.extract i z).data.toList = u:=by
  rw [Lib.extract_data,← hz,Nat.add_sub_cancel_left]
  show (restB s i).take u.length = u
  rw [hl,List.take_left]
 have hWs : (s.extract i z).size ≤ 256:=by rw [ByteArray.size_extract]; omega
 have HU:=keep hu
 have HDW:=keep hdw
 have HZ:=keep hz
 have HDR:=keep (show i + (digRun s i).length = z by rw [hdr]; exact hz)
 have HDZ:=keep hdz
 have HRUN:=keep hrun
 have HW:=keep hW
 have HWS:=keep hWs
 have HNE:=keep (show u ≠ [] by rintro rfl; simp at hul)
 clear hsl hl hrun hstop hrl hdr hu hdw hul hz hdz hW hd hWs
 have H1:=Lib.hid (Ok.start w)
 go_enter Tryz.func70,Tryz.ntmps70
 go_wp2_with fail
 have H2:=Lib.hid ((H1.out.var w.heap.size 43 [.int .u8 0,.int .i64 0,.string ⟨#[]⟩,.int .i64 0,.int .i64 0,.int .i64 0,.int .i64 0,.int .i64 0] rfl).var (w.heap.size + 1) 43 [.int .u8 1,.int .i64 0,.string ⟨#[]⟩,.int .i64 0,.int .i64 0,.int .i64 0,.int .i64 0,.int .i64 (i : Int)] (by simp))
 clear H1
 generalize ((w.alloc (.cells #[.int .u8 0,.int .i64 0,.string ⟨#[]⟩,.int .i64 0,.int .i64 0,.int .i64 0,.int .i64 0,.int .i64 0] 43)).alloc (.cells #[.int .u8 1,.int .i64 0,.string ⟨#[]⟩,.int .i64 0,.int .i64 0,.int .i64 0,.int .i64 0,.int .i64 (i : Int)] 43)) = W3 at H2 ⊢
 go_loopw [8] (fun ev wr => ∃ k : Nat,i ≤ k ∧ k ≤ s.size ∧ ev = .int .i64 (k : Int) ∧ Keep (k + (digRun s k).length = z) ∧ wr = W3) (fun ev _ => s.size - (intOf ev).toNat)
 case atStart => exact ⟨i,Nat.le_refl _,Nat.le_of_lt hi,rfl,HDR,rfl⟩
 case round =>
  clear HDR
  obtain ⟨k,hik,hk,rfl,HX,hwr⟩:=hrel
  obtain rfl : W3 = wr:=hwr.symm
  have hrn:=dig_run s k
  cases hD : testAt isDig s k
  ·rw [hD] at hrn
   have hkz : k = z:=by have h9:=HX.out; rw [hrn] at h9; simpa using h9
   have HDD:=keep hD
   clear HX hrn hD hik hk hi
   subst hkz
   have hiz2 : (i : Int) ≤ (k : Int):=by omega
   have hks2 : (k : Int) ≤ (s.size : Int):=by omega
   have HIK:=keep hiz
   clear hiz
   go_wp2_with fail
   refine (ref7_digit s k _).mono ?_
   rintro e w1 ⟨rfl,hw1⟩
   obtain rfl : W3 = w1:=hw1.symm
   rw [HDD.out]
   go_upto_region 6 with fail
   obtain ⟨b,hb⟩ : ∃ b,(testAt (· == 46) s k && testAt isDig s (k + 1)) = b:=⟨_,rfl⟩
   have HB:=keep hb
   clear hb
   go_cut [42] (fun s42 wx => s42 = .bool b ∧ wx = W3)
   case first =>
    by_cases h1 : (k : Int) < s.size
    ·have hkl : k < s.size:=by omega
     have hda:=dot_at hkl
     by_cases h2 : ((s[k]'hkl).toNat : Int) = 46
     ·rw [decide_eq_true h2] at hda
      have hB:=HB.out
      rw [hda,Bool.true_and] at hB
      have h2' : (((s[k]'hkl).toNat : Int) == 46) = true:=by rw [h2]; rfl
      have HB2:=keep hB
      clear hda hB h2
      go_wp2_with fail
      refine (ref7_digitI s _ (k + 1) _ (by omega)).mono ?_
      rintro e w2 ⟨rfl,hw2⟩
      obtain rfl : W3 = w2:=hw2.symm
      rw [HB2.out]
      go_wp2_with fail
      all_goals (go_meet; exact ⟨rfl,rfl⟩)
     ·rw [decide_eq_false h2] at hda
      have hB:=HB.out
      rw [hda,Bool.false_and] at hB
      subst hB
      have h2' : (((s[k]'hkl).toNat : Int) == 46) = false:=by simpa using h2
      clear hda h2
      go_wp2_with fail
      go_meet
      exact ⟨rfl,rfl⟩
    ·have hB:=HB.out
     rw [test_out (by omega),Bool.false_and] at hB
     subst hB
     go_wp2_with fail
     go_meet
     exact ⟨rfl,rfl⟩
   case rest =>
    obtain ⟨rfl,hwc⟩:=hcut
    obtain rfl : W3 = wc:=hwc.symm
    go_upto_if 42 with fail
    go_cut [8,10] (fun s8 s10 wx => ∃ (p : ByteArray) (q : Nat),s8 = .int .i64 (q : Int) ∧ s10 = .string p ∧ p.size ≤ 256 ∧ q ≤ s.size ∧ Keep (p.data.toList = placesS d) ∧ Keep (q = k + if placesS d = [] then 0 else (placesS d).length + 1) ∧ wx = W3)
    case first =>
     cases b
     ·have hP : placesS d = []:=by
       rw [← HDZ.out]
       have hB:=HB.out
       rw [Bool.and_eq_false_iff] at hB
       rcases hB with hB | hB
       ·exact places_off hB
       ·exact places_dot hB
      have HP:=keep hP
      clear hP
      go_wp2_with fail
      go_meet
      exact ⟨⟨#[]⟩,k,rfl,rfl,by decide,by omega,keep (by rw [HP.out]),keep (by rw [if_pos HP.out,Nat.add_zero]),rfl⟩
     ·have hB:=HB.out
      rw [Bool.and_eq_true] at hB
      obtain ⟨h46,hd1⟩:=hB
      have hk1:=test_lt hd1
      have HP:=keep (show placesS d = digRun s (k + 1) by rw [← HDZ.out]; exact places_at h46)
      have hk2 : (k : Int) + 1 = ((k + 1 : Nat) : Int):=by omega
      have hd2:=dig_run s (k + 1)
      rw [hd1] at hd2
      have HPN:=keep (show placesS d ≠ [] by rw [HP.out]; intro e; rw [e] at hd2; simp at hd2)
      obtain ⟨y,hy⟩ : ∃ y,k + 1 = y:=⟨_,rfl⟩
      rw [hy] at hk1 hk2
      obtain ⟨v,hv⟩ : ∃ v,y + (digRun s y).length = v:=⟨_,rfl⟩
      have HY:=keep hy
      have HV:=keep hv
      clear h46 hd1 hd2 hv hy
      go_wp2_with fail
      go_loopw [8] (fun ev wr => ∃ q : Nat,y ≤ q ∧ q ≤ s.size ∧ ev = .int .i64 (q : Int) ∧ Keep (q + (digRun s q).length = v) ∧ wr = W3) (fun ev _ => s.size - (intOf ev).toNat)
      case atStart => exact ⟨y,Nat.le_refl _,by omega,by go_num,HV,rfl⟩
      case round =>
       obtain ⟨q,hyq,hq,rfl,HX,hwr⟩:=hrel
       obtain rfl : W3 = wr:=hwr.symm
       have hrn:=dig_run s q
       cases hD : testAt isDig s q
       ·rw [hD] at hrn
        have hqv : q = v:=by have h9:=HX.out; rw [hrn] at h9; simpa using h9
        have HDD:=keep hD
        clear HX hrn hD
        subst hqv
        have hyq2 : (y : Int) ≤ (q : Int):=by omega
        have hqs2 : (q : Int) ≤ (s.size : Int):=by omega
        have HPD:=keep (show (s.extract y q).data.toList = placesS d by
         rw [HP.out,HY.out,Lib.extract_data,← HV.out,Nat.add_sub_cancel_left]
         exact take_run isDig (restB s y))
        have HPS:=keep (show (s.extract y q).size ≤ 256 by rw [ByteArray.size_extract]; omega)
        have HQ:=keep (show q = k + ((placesS d).length + 1) by rw [HP.out,HY.out]; have:=HV.out; have:=HY.out; omega)
        go_wp2_with fail
        refine (ref7_digit s q _).mono ?_
        rintro e w4 ⟨rfl,hw5⟩
        obtain rfl : W3 = w4:=hw5.symm
        rw [HDD.out]
        go_wp2_with fail
        go_meet
        exact ⟨s.extract y q,q,rfl,rfl,HPS.out,by omega,HPD,keep (by rw [if_neg HPN.out]; exact HQ.out),rfl⟩
       ·have hql:=test_lt hD
        rw [hD] at hrn
        have HZ2:=keep (show q + 1 + (digRun s (q + 1)).length = v by have h9:=HX.out; rw [hrn] at h9; simp at h9; omega)
        have HDD:=keep hD
        clear HX hrn hD
        go_wp2_with fail
        refine (ref7_digit s q _).mono ?_
        rintro e w4 ⟨rfl,hw5⟩
        obtain rfl : W3 = w4:=hw5.symm
        rw [HDD.out]
        go_wp2_with fail
        go_roundw
        case rel => exact ⟨q + 1,by omega,by omega,by go_num,HZ2,by first | trivial | rfl⟩
        case measure => simp [intOf]; omega
    case rest =>
     obtain ⟨p,q,rfl,rfl,hp,hq,HP,HQ,hwc⟩:=hcut
     obtain rfl : W3 = wc:=hwc.symm
     clear HB
     by_cases h4 : (p.size : Int) > 4
     ·have HL:=keep (show 4 < (placesS ((restB s i).dropWhile isDig)).length by rw [HDW.out,← HP.out,Array.length_toList]; show 4 < p.size; omega)
      have F4:=H2.out.sees
      simp only [sees,kVar,cellsAt,Nat.reduceAdd] at F4
      obtain ⟨⟨⟨z0,fz0⟩,c0_0,c0_1,c0_2,c0_3,c0_4,c0_5,c0_6,c0_7,-⟩,⟨⟨z1,fz1⟩,c1_0,c1_1,c1_2,c1_3,c1_4,c1_5,c1_6,c1_7,-⟩,-⟩:=F4
      go_wp2_with fail
      have hK:=H2.out.get (kVar (w.heap.size) 43 [.int .u8 0,.int .i64 0,.string ⟨#[]⟩,.int .i64 0,.int .i64 0,.int .i64 0,.int .i64 0,.int .i64 0]) (by simp)
      have hB:=H2.out.bel
      have hE:=(((((((((show Blk W3 (w.heap.size) 43 _ from hK).set_ 0 (.int .u8 1)).set_ 1 (.int .i64 0)).set_ 2 (.string ⟨#[]⟩)).set_ 3 (.int .i64 0)).set_ 4 (.int .i64 0)).set_ 5 (.int .i64 0)).set_ 6 (.int .i64 0)).set_ 7 (.int .i64 (i : Int)))
      have r0:=hE.cell 0
      have r1:=hE.cell 1
      have r2:=hE.cell 2
      have r3:=hE.cell 3
      have r4:=hE.cell 4
      have r5:=hE.cell 5
      have r6:=hE.cell 6
      have r7:=hE.cell 7
      simp at r0 r1 r2 r3 r4 r5 r6 r7
      refine bodyPost_ret (v:=.tuple #[.agg #[.int .u8 1,.int .i64 0,.string ⟨#[]⟩,.int .i64 0,.int .i64 0,.int .i64 0,.int .i64 0,.int .i64 (i : Int)],.int .i64 0,.bool false]) (by simp [results,Tryz.results70,go_sem,r0,r1,r2,r3,r4,r5,r6,r7]) rfl ⟨refout_none ⟨1,0,[],R4.zero,i⟩ (num_long HL.out),((((((((hB.setCell (by simp) _).setCell (by simp) _).setCell (by simp) _).setCell (by simp) _).setCell (by simp) _).setCell (by simp) _).setCell (by simp) _).setCell (by simp) _)⟩
     ·have hp4 : p.size ≤ 4:=by omega
      go_wp2_with fail
      go_loopg [10] (4 - p.size) (fun gf pv wr => ∃ x : ByteArray,gf = 4 - x.size ∧ pv = .string x ∧ x.size ≤ 4 ∧ p.size ≤ x.size ∧ Keep (x.data.toList = placesS d ++ List.replicate (x.size - p.size) 48) ∧ wr = W3)
      case atStart => exact ⟨p,rfl,rfl,hp4,Nat.le_refl _,keep (by rw [Nat.sub_self,List.replicate_zero,List.append_nil]; exact HP.out),rfl⟩
      case round =>
       obtain ⟨x,hgx,rfl,hx4,hpx,HX,hwr⟩:=hrel
       obtain rfl : W3 = wr:=hwr.symm
       subst hgx
       by_cases hlt : (x.size : Int) < 4
       ·have HX2:=keep (show (x ++ (⟨#[48]⟩ : ByteArray)).data.toList = placesS d ++ List.replicate ((x ++ (⟨#[48]⟩ : ByteArray)).size - p.size) 48 by
         rw [ByteArray.data_append,Array.toList_append,HX.out,ByteArray.size_append,show x.size + (⟨#[48]⟩ : ByteArray).size - p.size = (x.size - p.size) + 1 by show x.size + 1 - _ = _; omega,List.replicate_succ',List.append_assoc])
        have HX3:=keep (show (x ++ (⟨#[48]⟩ : ByteArray)).size = x.size + 1 by rw [ByteArray.size_append]; rfl)
        go_wp2_with fail
        go_roundg (4 - (x.size + 1))
        case rel => exact ⟨x ++ ⟨#[48]⟩,by rw [HX3.out],rfl,by rw [HX3.out]; omega,by rw [HX3.out]; omega,HX2,rfl⟩
        case measure => omega
       ·have hxe : x.size = 4:=by omega
        have hpl : p.size = (placesS d).length:=by rw [← HP.out,Array.length_toList]; rfl
        have hY : (s.extract i k ++ x).data.toList = u ++ placesS d ++ List.replicate (4 - (placesS d).length) 48:=by
         rw [ByteArray.data_append,Array.toList_append,HW.out,HX.out,hxe,hpl,List.append_assoc]
        have hYs : (s.extract i k ++ x).size ≤ 300:=by rw [ByteArray.size_append]; have:=HWS.out; omega
        have hYd : ∀ b ∈ (s.extract i k ++ x).data.toList,isDig b = true:=by
         intro b hb
         rw [hY] at hb
         rcases List.mem_append.1 hb with hb | hb
         ·rcases List.mem_append.1 hb with hb | hb
          ·exact HRUN.out b hb
          ·cases d with
           | nil => simp [placesS] at hb
           | cons c r =>
            rw [places_cons] at hb
            split at hb
            ·exact (run_split isDig r).2.1 b hb
            ·simp at hb
         ·rw [List.mem_replicate] at hb
          rw [hb.2]
          decide
        have HY:=keep hY
        have HYD:=keep hYd
        have HPL:=keep (show (placesS d).length ≤ 4 by omega)
        clear hY hYd hpl
        go_upto_region 17 with fail
        generalize s.extract i k ++ x = Y at HY HYD hYs ⊢
        clear HX hxe hx4 hpx hlt hp4 hp h4 HP
        go_wp2_with fail
        go_loopw [13] (fun jv wr => ∃ (j : Nat) (v : Int),j ≤ Y.size ∧ jv = .int .i64 (j : Int) ∧ 0 ≤ v ∧ v ≤ 9223372036854775807 ∧ Keep (v = (valD (Y.data.toList.take j) : Nat)) ∧ Hid (Ok w [kVar (w.heap.size + 1) 43 [.int .u8 1,.int .i64 v,.string ⟨#[]⟩,.int .i64 0,.int .i64 0,.int .i64 0,.int .i64 0,.int .i64 (i : Int)],kVar (w.heap.size) 43 [.int .u8 0,.int .i64 0,.string ⟨#[]⟩,.int .i64 0,.int .i64 0,.int .i64 0,.int .i64 0,.int .i64 0]] wr)) (fun jv _ => Y.size - (intOf jv).toNat)
        case atStart => exact ⟨0,0,Nat.zero_le _,rfl,by omega,by omega,keep (by rw [List.take_zero]; rfl),H2⟩
        case round =>
         clear H2
         obtain ⟨j,v,hj,rfl,hv0,hv,HV,HR⟩:=hrel
         obtain ⟨wp,rfl⟩ : ∃ wp : World,wp = wr:=⟨_,rfl⟩
         by_cases hlt : (j : Int) < Y.size
         ·have hjl : j < Y.size:=by omega
          have hyl : Y.data.toList.length = Y.size:=by rw [Array.length_toList]; rfl
          have hdg:=HYD.out (Y[j]'hjl) (by show Y.data.toList[j]'(by rw [hyl]; exact hjl) ∈ _; exact List.getElem_mem _)
          rw [dig_int] at hdg
          simp at hdg
          obtain ⟨dd,hdd⟩ : ∃ dd : Nat,(Y[j]'hjl).toNat = 48 + dd:=⟨(Y[j]'hjl).toNat - 48,by omega⟩
          have hd9 : dd ≤ 9:=by omega
          have hstep:=valD_take Y.data.toList j (by rw [hyl]; exact hjl)
          have hst2 : ((valD (Y.data.toList.take (j + 1)) : Nat) : Int) = 10 * v + dd:=by
           rw [hstep,show (Y.data.toList[j]'(by rw [hyl]; exact hjl)).toNat = 48 + dd from hdd,HV.out]
           omega
          have HST:=keep hst2
          have hix : ∀ h,((Y[j]'h).toNat : Int) = 48 + (dd : Int):=fun _ => by rw [hdd]; omega
          clear hdg hdd hstep hst2 hyl
          obtain ⟨qq,hqq⟩ : ∃ qq : Int,(9223372036854775807 - (48 + (dd : Int) - 48)).tdiv 10 = qq:=⟨_,rfl⟩
          have hqe : (9223372036854775807 - (48 + (dd : Int) - 48)).tdiv 10 = (9223372036854775807 - (48 + (dd : Int) - 48)) / 10:=Int.tdiv_eq_ediv_of_nonneg (by omega)
          have hq0 : 0 ≤ qq:=by omega
          have hq1 : qq ≤ 922337203685477580:=by omega
          by_cases hG : 9223372036854775807 < 10 * v + dd
          ·have HOV:=keep (num_over (l:=restB s i) (i:=i) (a:=Y.data.toList) (k:=j + 1) (by rw [HU.out,HDW.out]; exact HY.out.symm) (by have:=HST.out; unfold mostN; omega))
           have hgt : v > qq:=by omega
           clear hqe hG
           have F4:=HR.out.sees
           simp only [sees,kVar,cellsAt,Nat.reduceAdd] at F4
           obtain ⟨⟨⟨z0,fz0⟩,c0_0,c0_1,c0_2,c0_3,c0_4,c0_5,c0_6,c0_7,-⟩,⟨⟨z1,fz1⟩,c1_0,c1_1,c1_2,c1_3,c1_4,c1_5,c1_6,c1_7,-⟩,-⟩:=F4
           go_wp2_with fail
           have hK:=HR.out.get (kVar (w.heap.size) 43 [.int .u8 0,.int .i64 0,.string ⟨#[]⟩,.int .i64 0,.int .i64 0,.int .i64 0,.int .i64 0,.int .i64 0]) (by simp)
           have hB:=HR.out.bel
           have hE:=(((((((((show Blk wp (w.heap.size) 43 _ from hK).set_ 0 (.int .u8 1)).set_ 1 (.int .i64 v)).set_ 2 (.string ⟨#[]⟩)).set_ 3 (.int .i64 0)).set_ 4 (.int .i64 0)).set_ 5 (.int .i64 0)).set_ 6 (.int .i64 0)).set_ 7 (.int .i64 (i : Int)))
           have r0:=hE.cell 0
           have r1:=hE.cell 1
           have r2:=hE.cell 2
           have r3:=hE.cell 3
           have r4:=hE.cell 4
           have r5:=hE.cell 5
           have r6:=hE.cell 6
           have r7:=hE.cell 7
           simp at r0 r1 r2 r3 r4 r5 r6 r7
           refine bodyPost_ret (v:=.tuple #[.agg #[.int .u8 1,.int .i64 v,.string ⟨#[]⟩,.int .i64 0,.int .i64 0,.int .i64 0,.int .i64 0,.int .i64 (i : Int)],.int .i64 0,.bool false]) (by simp [results,Tryz.results70,go_sem,r0,r1,r2,r3,r4,r5,r6,r7]) rfl ⟨refout_none ⟨1,v,[],R4.zero,i⟩ HOV.out,((((((((hB.setCell (by simp) _).setCell (by simp) _).setCell (by simp) _).setCell (by simp) _).setCell (by simp) _).setCell (by simp) _).setCell (by simp) _).setCell (by simp) _)⟩
          ·have HM:=keep (show 0 ≤ 10 * v + (48 + (dd : Int) - 48) ∧ 10 * v + (48 + (dd : Int) - 48) ≤ 9223372036854775807 by omega)
           have hgt : ¬ v > qq:=by omega
           have hov : 10 * v + (dd : Int) ≤ 9223372036854775807:=by omega
           clear hqe hG
           have F4:=HR.out.sees
           simp only [sees,kVar,cellsAt,Nat.reduceAdd] at F4
           obtain ⟨⟨⟨z0,fz0⟩,c0_0,c0_1,c0_2,c0_3,c0_4,c0_5,c0_6,c0_7,-⟩,⟨⟨z1,fz1⟩,c1_0,c1_1,c1_2,c1_3,c1_4,c1_5,c1_6,c1_7,-⟩,-⟩:=F4
           go_wp2_with fail
           clear z0 fz0 c0_0 c0_1 c0_2 c0_3 c0_4 c0_5 c0_6 c0_7 z1 fz1 c1_0 c1_1 c1_2 c1_3 c1_4 c1_5 c1_6 c1_7
           have hfar : ∀ x ∈ [kVar (w.heap.size) 43 [.int .u8 0,.int .i64 0,.string ⟨#[]⟩,.int .i64 0,.int .i64 0,.int .i64 0,.int .i64 0,.int .i64 0]],x.far (some (w.heap.size + 1)):=by
            simp [kVar] <;> omega
           have HS:=Lib.hid (HR.out.set_ (i:=1) (u:=.int .i64 (10 * v + (48 + (dd : Int) - 48))) (by omega) hfar)
           go_roundw
           case rel => exact ⟨j + 1,10 * v + (48 + (dd : Int) - 48),by omega,by go_num,HM.out.1,HM.out.2,keep (by rw [HST.out]; omega),HS⟩
           case measure => simp [intOf]; omega
         ·obtain rfl : j = Y.size:=by omega
          have hfull : Y.data.toList.take Y.size = Y.data.toList:=by rw [show Y.size = Y.data.toList.length by rw [Array.length_toList]; rfl,List.take_length]
          have HN:=keep (show v = (numV u (placesS d) : Nat) by rw [HV.out,hfull,HY.out]; rfl)
          have HRES:=keep (show numR (restB s i) i = some (⟨1,v,[],R4.zero,i⟩,u.length + if placesS d = [] then 0 else (placesS d).length + 1) by
           rw [num_good (by rw [HU.out]; exact HNE.out) (by rw [HDW.out]; exact HPL.out) (by rw [HU.out,HDW.out]; have:=HN.out; unfold mostN; omega),HU.out,HDW.out,← HN.out])
          have HQ2:=keep (show q = i + (u.length + if placesS d = [] then 0 else (placesS d).length + 1) by rw [HQ.out]; have:=HZ.out; omega)
          clear hfull
          have F4:=HR.out.sees
          simp only [sees,kVar,cellsAt,Nat.reduceAdd] at F4
          obtain ⟨⟨⟨z0,fz0⟩,c0_0,c0_1,c0_2,c0_3,c0_4,c0_5,c0_6,c0_7,-⟩,⟨⟨z1,fz1⟩,c1_0,c1_1,c1_2,c1_3,c1_4,c1_5,c1_6,c1_7,-⟩,-⟩:=F4
          go_wp2_with fail
          have hK:=HR.out.get (kVar (w.heap.size) 43 [.int .u8 0,.int .i64 0,.string ⟨#[]⟩,.int .i64 0,.int .i64 0,.int .i64 0,.int .i64 0,.int .i64 0]) (by simp)
          have hB:=HR.out.bel
          have hE:=(((((((((show Blk wp (w.heap.size) 43 _ from hK).set_ 0 (.int .u8 1)).set_ 1 (.int .i64 v)).set_ 2 (.string ⟨#[]⟩)).set_ 3 (.int .i64 0)).set_ 4 (.int .i64 0)).set_ 5 (.int .i64 0)).set_ 6 (.int .i64 0)).set_ 7 (.int .i64 (i : Int)))
          have r0:=hE.cell 0
          have r1:=hE.cell 1
          have r2:=hE.cell 2
          have r3:=hE.cell 3
          have r4:=hE.cell 4
          have r5:=hE.cell 5
          have r6:=hE.cell 6
          have r7:=hE.cell 7
          simp at r0 r1 r2 r3 r4 r5 r6 r7
          refine bodyPost_ret (v:=.tuple #[.agg #[.int .u8 1,.int .i64 v,.string ⟨#[]⟩,.int .i64 0,.int .i64 0,.int .i64 0,.int .i64 0,.int .i64 (i : Int)],.int .i64 (q : Int),.bool true]) (by simp [results,Tryz.results70,go_sem,r0,r1,r2,r3,r4,r5,r6,r7]) rfl ⟨refout_some q HRES.out HQ2.out,((((((((hB.setCell (by simp) _).setCell (by simp) _).setCell (by simp) _).setCell (by simp) _).setCell (by simp) _).setCell (by simp) _).setCell (by simp) _).setCell (by simp) _)⟩
  ·have hkl:=test_lt hD
   rw [hD] at hrn
   have HZ2:=keep (show k + 1 + (digRun s (k + 1)).length = z by have h9:=HX.out; rw [hrn] at h9; simp at h9; omega)
   have HDD:=keep hD
   clear HX hrn hD
   go_wp2_with fail
   refine (ref7_digit s k _).mono ?_
   rintro e w4 ⟨rfl,hw5⟩
   obtain rfl : W3 = w4:=hw5.symm
   rw [HDD.out]
   go_wp2_with fail
   go_roundw
   case rel => exact ⟨k + 1,by omega,by omega,by go_num,HZ2,by first | trivial | rfl⟩
   case measure => simp [intOf]; omega
end
section
open Go.RowKit
def Look (s : ByteArray) (a k : Nat) (t : List UInt8) : Prop:=unqS (s.data.toList.drop a) = (unqS (s.data.toList.drop k)).map fun p => (t ++ p.1,p.2 + (k - a))
theorem Look.start (s : ByteArray) (a : Nat) : Look s a a []:=by
 unfold Look
 simp
theorem Look.step {s : ByteArray} {a k : Nat} {t : List UInt8} (h : Look s a k t) (ha : a ≤ k) (hk : k < s.size) (h1 : s[k]'hk ≠ 34) : Look s a (k + 1) (t ++ [s[k]'hk]):=by
 have hsl : s.data.toList.length = s.size:=by rw [Array.length_toList]; rfl
 have hd : s.data.toList.drop k = s[k]'hk :: s.data.toList.drop (k + 1):=List.drop_eq_getElem_cons (by omega)
 unfold Look at h ⊢
 rw [h,hd]
 cases hr : s.data.toList.drop (k + 1) with
 | nil => rw [unq_one,if_neg h1]; rfl
 | cons c r =>
  rw [unq_two,if_neg h1]
  cases unqS (c :: r) with
  | none => rfl
  | some y => simp; omega
theorem Look.pair {s : ByteArray} {a k : Nat} {t : List UInt8} (h : Look s a k t) (ha : a ≤ k) (hk : k + 1 < s.size) (h1 : s[k]'(by omega) = 34) (h2 : s[k + 1]'hk = 34) : Look s a (k + 2) (t ++ [34]):=by
 have hsl : s.data.toList.length = s.size:=by rw [Array.length_toList]; rfl
 have hd : s.data.toList.drop k = s[k]'(by omega) :: s[k + 1]'hk :: s.data.toList.drop (k + 2):=by
  rw [List.drop_eq_getElem_cons (by omega),List.drop_eq_getElem_cons (by omega)]
  rfl
 unfold Look at h ⊢
 rw [h,hd,unq_two,if_pos h1,if_pos h2]
 cases unqS (s.data.toList.drop (k + 2)) with
 | none => rfl
 | some y => simp; omega
theorem Look.last {s : ByteArray} {a k : Nat} {t : List UInt8} (h : Look s a k t) (ha : a ≤ k) (hk : k < s.size) (h1 : s[k]'hk = 34) (h2 : ∀ h : k + 1 < s.size,s[k + 1]'h ≠ 34) : unqS (s.data.toList.drop a) = some (t,k + 1 - a):=by
 have hsl : s.data.toList.length = s.size:=by rw [Array.length_toList]; rfl
 have hu : unqS (s.data.toList.drop k) = some ([],1):=by
  have hd : s.data.toList.drop k = s[k]'hk :: s.data.toList.drop (k + 1):=List.drop_eq_getElem_cons (by omega)
  rw [hd]
  by_cases hk1 : k + 1 < s.size
  ·have hd2 : s.data.toList.drop (k + 1) = s[k + 1]'hk1 :: s.data.toList.drop (k + 2):=List.drop_eq_getElem_cons (by omega)
   rw [hd2,unq_two,if_pos h1,if_neg (h2 hk1)]
  ·rw [List.drop_eq_nil_of_le (by omega),unq_one,if_pos h1]
 unfold Look at h
 rw [h,hu]
 simp; omega
theorem Look.out {s : ByteArray} {a : Nat} {t : List UInt8} (h : Look s a s.size t) : unqS (s.data.toList.drop a) = none:=by
 have hsl : s.data.toList.length = s.size:=by rw [Array.length_toList]; rfl
 unfold Look at h
 rw [h,List.drop_eq_nil_of_le (by omega)]
 rfl
theorem snoc_bytes (x y : ByteArray) : (x ++ y).data.toList = x.data.toList ++ y.data.toList:=by rw [ByteArray.data_append,Array.toList_append]
theorem one_byte {s : ByteArray} {k : Nat} (hk : k < s.size) : (s.extract k (k + 1)).data.toList = [s[k]'hk]:=by
 have hsl : s.data.toList.length = s.size:=by rw [Array.length_toList]; rfl
 rw [Lib.extract_data,show k + 1 - k = 1 by omega,List.drop_eq_getElem_cons (by omega)]
 rfl
set_option maxRecDepth 100000 in
set_option maxHeartbeats 8000000 in
theorem ref7_text (s : ByteArray) (i : Nat) (w : World) (hs : s.size ≤ 256) (hi : i < s.size) (h34 : s[i]'hi = 34) :
  Calls Tryz.prog 71 #[.string s,.int .i64 (i : Int)] w fun e w' => RefOut i (txtR (restB s i) i) e ∧ Below w.heap.size w w':=by
 have H34:=keep h34
 clear h34
 have H1:=Lib.hid (Ok.start w)
 go_enter Tryz.func71,Tryz.ntmps71
 go_wp2_with fail
 have H2:=Lib.hid ((H1.out.var w.heap.size 43 [.int .u8 0,.int .i64 0,.string ⟨#[]⟩,.int .i64 0,.int .i64 0,.int .i64 0,.int .i64 0,.int .i64 0] rfl).var (w.heap.size + 1) 43 [.int .u8 2,.int .i64 0,.string ⟨#[]⟩,.int .i64 0,.int .i64 0,.int .i64 0,.int .i64 0,.int .i64 (i : Int)] (by simp))
 clear H1
 generalize ((w.alloc (.cells #[.int .u8 0,.int .i64 0,.string ⟨#[]⟩,.int .i64 0,.int .i64 0,.int .i64 0,.int .i64 0,.int .i64 0] 43)).alloc (.cells #[.int .u8 2,.int .i64 0,.string ⟨#[]⟩,.int .i64 0,.int .i64 0,.int .i64 0,.int .i64 0,.int .i64 (i : Int)] 43)) = W3 at H2 ⊢
 go_loopw [8] (fun kv wr => ∃ (k : Nat) (X : ByteArray),i + 1 ≤ k ∧ k ≤ s.size ∧ X.size ≤ k ∧ kv = .int .i64 (k : Int) ∧ Keep (Look s (i + 1) k X.data.toList) ∧ Hid (Ok w [kVar (w.heap.size + 1) 43 [.int .u8 2,.int .i64 0,.string X,.int .i64 0,.int .i64 0,.int .i64 0,.int .i64 0,.int .i64 (i : Int)],kVar (w.heap.size) 43 [.int .u8 0,.int .i64 0,.string ⟨#[]⟩,.int .i64 0,.int .i64 0,.int .i64 0,.int .i64 0,.int .i64 0]] wr)) (fun kv _ => s.size - (intOf kv).toNat)
 case atStart => exact ⟨i + 1,⟨#[]⟩,Nat.le_refl _,hi,Nat.zero_le _,by go_num,keep (Look.start _ _),H2⟩
 case round =>
  clear H2
  obtain ⟨k,X,hk1,hk,hX,rfl,HK,HR⟩:=hrel
  obtain ⟨wp,rfl⟩ : ∃ wp : World,wp = wr:=⟨_,rfl⟩
  by_cases hlt : (k : Int) < s.size
  ·have hks : k < s.size:=by omega
   by_cases h3 : ((s[k]'hks).toNat : Int) = 34
   ·have H3:=keep (show s[k]'hks = 34 by rw [← UInt8.toNat_inj]; show _ = 34; omega)
    have hb3 : (((s[k]'hks).toNat : Int) != 34) = false:=by rw [h3]; rfl
    clear h3
    have ht1 : ((k : Int) + 1).toNat = k + 1:=by omega
    by_cases h4 : (k : Int) + 1 < s.size
    ·have hks1 : k + 1 < s.size:=by omega
     by_cases h5 : ((s[k + 1]'hks1).toNat : Int) = 34
     ·have H5:=keep (show s[k + 1]'hks1 = 34 by rw [← UInt8.toNat_inj]; show _ = 34; omega)
      have hb5 : (((s[k + 1]'hks1).toNat : Int) == 34) = true:=by rw [h5]; rfl
      clear h5
      have F4:=HR.out.sees
      simp only [sees,kVar,cellsAt,Nat.reduceAdd] at F4
      obtain ⟨⟨⟨z0,fz0⟩,c0_0,c0_1,c0_2,c0_3,c0_4,c0_5,c0_6,c0_7,-⟩,⟨⟨z1,fz1⟩,c1_0,c1_1,c1_2,c1_3,c1_4,c1_5,c1_6,c1_7,-⟩,-⟩:=F4
      have HX2:=keep (show Look s (i + 1) (k + 2) (X ++ (⟨#[34]⟩ : ByteArray)).data.toList by rw [snoc_bytes]; exact Look.pair HK.out hk1 hks1 H3.out H5.out)
      have HXS:=show (X ++ (⟨#[34]⟩ : ByteArray)).size ≤ k + 2 by rw [ByteArray.size_append]; show X.size + 1 ≤ _; omega
      go_wp2_with fail
      clear z0 fz0 c0_0 c0_1 c0_2 c0_3 c0_4 c0_5 c0_6 c0_7 z1 fz1 c1_0 c1_1 c1_2 c1_3 c1_4 c1_5 c1_6 c1_7
      have HS:=Lib.hid (HR.out.set_ (i:=2) (u:=.string (X ++ (⟨#[34]⟩ : ByteArray))) (by omega) (by simp [kVar]))
      go_roundw
      case rel => exact ⟨k + 2,X ++ (⟨#[34]⟩ : ByteArray),by omega,by omega,HXS,by go_num,HX2,HS⟩
      case measure => simp [intOf]; omega
     ·have H5:=keep (show s[k + 1]'hks1 ≠ 34 by intro e; rw [e] at h5; exact h5 rfl)
      have hb5 : (((s[k + 1]'hks1).toNat : Int) == 34) = false:=by simpa using h5
      clear h5
      have HRES:=keep (txt_yes hi H34.out (Look.last HK.out hk1 hks H3.out (fun _ => H5.out)))
      have hke : (k : Int) + 1 = ((k + 1 : Nat) : Int):=by omega
      have HKE:=keep hke
      clear hke
      have F4:=HR.out.sees
      simp only [sees,kVar,cellsAt,Nat.reduceAdd] at F4
      obtain ⟨⟨⟨z0,fz0⟩,c0_0,c0_1,c0_2,c0_3,c0_4,c0_5,c0_6,c0_7,-⟩,⟨⟨z1,fz1⟩,c1_0,c1_1,c1_2,c1_3,c1_4,c1_5,c1_6,c1_7,-⟩,-⟩:=F4
      go_wp2_with fail
      have hK:=HR.out.get (kVar (w.heap.size) 43 [.int .u8 0,.int .i64 0,.string ⟨#[]⟩,.int .i64 0,.int .i64 0,.int .i64 0,.int .i64 0,.int .i64 0]) (by simp)
      have hB:=HR.out.bel
      have hE:=(((((((((show Blk wp (w.heap.size) 43 _ from hK).set_ 0 (.int .u8 2)).set_ 1 (.int .i64 0)).set_ 2 (.string X)).set_ 3 (.int .i64 0)).set_ 4 (.int .i64 0)).set_ 5 (.int .i64 0)).set_ 6 (.int .i64 0)).set_ 7 (.int .i64 (i : Int)))
      have r0:=hE.cell 0
      have r1:=hE.cell 1
      have r2:=hE.cell 2
      have r3:=hE.cell 3
      have r4:=hE.cell 4
      have r5:=hE.cell 5
      have r6:=hE.cell 6
      have r7:=hE.cell 7
      simp at r0 r1 r2 r3 r4 r5 r6 r7
      refine bodyPost_ret (v:=.tuple #[.agg #[.int .u8 2,.int .i64 0,.string X,.int .i64 0,.int .i64 0,.int .i64 0,.int .i64 0,.int .i64 (i : Int)],.int .i64 ((k : Int) + 1),.bool true]) (by simp [results,Tryz.results71,go_sem,r0,r1,r2,r3,r4,r5,r6,r7]) rfl ⟨by rw [HKE.out]; exact refout_some (k + 1) HRES.out (by omega),((((((((hB.setCell (by simp) _).setCell (by simp) _).setCell (by simp) _).setCell (by simp) _).setCell (by simp) _).setCell (by simp) _).setCell (by simp) _).setCell (by simp) _)⟩
    ·have HRES:=keep (txt_yes hi H34.out (Look.last HK.out hk1 hks H3.out (fun h => absurd h (by omega))))
     have hke : (k : Int) + 1 = ((k + 1 : Nat) : Int):=by omega
     have HKE:=keep hke
     clear hke
     have F4:=HR.out.sees
     simp only [sees,kVar,cellsAt,Nat.reduceAdd] at F4
     obtain ⟨⟨⟨z0,fz0⟩,c0_0,c0_1,c0_2,c0_3,c0_4,c0_5,c0_6,c0_7,-⟩,⟨⟨z1,fz1⟩,c1_0,c1_1,c1_2,c1_3,c1_4,c1_5,c1_6,c1_7,-⟩,-⟩:=F4
     go_wp2_with fail
     have hK:=HR.out.get (kVar (w.heap.size) 43 [.int .u8 0,.int .i64 0,.string ⟨#[]⟩,.int .i64 0,.int .i64 0,.int .i64 0,.int .i64 0,.int .i64 0]) (by simp)
     have hB:=HR.out.bel
     have hE:=(((((((((show Blk wp (w.heap.size) 43 _ from hK).set_ 0 (.int .u8 2)).set_ 1 (.int .i64 0)).set_ 2 (.string X)).set_ 3 (.int .i64 0)).set_ 4 (.int .i64 0)).set_ 5 (.int .i64 0)).set_ 6 (.int .i64 0)).set_ 7 (.int .i64 (i : Int)))
     have r0:=hE.cell 0
     have r1:=hE.cell 1
     have r2:=hE.cell 2
     have r3:=hE.cell 3
     have r4:=hE.cell 4
     have r5:=hE.cell 5
     have r6:=hE.cell 6
     have r7:=hE.cell 7
     simp at r0 r1 r2 r3 r4 r5 r6 r7
     refine bodyPost_ret (v:=.tuple #[.agg #[.int .u8 2,.int .i64 0,.string X,.int .i64 0,.int .i64 0,.int .i64 0,.int .i64 0,.int .i64 (i : Int)],.int .i64 ((k : Int) + 1),.bool true]) (by simp [results,Tryz.results71,go_sem,r0,r1,r2,r3,r4,r5,r6,r7]) rfl ⟨by rw [HKE.out]; exact refout_some (k + 1) HRES.out (by omega),((((((((hB.setCell (by simp) _).setCell (by simp) _).setCell (by simp) _).setCell (by simp) _).setCell (by simp) _).setCell (by simp) _).setCell (by simp) _).setCell (by simp) _)⟩
   ·have H3:=keep (show s[k]'hks ≠ 34 by intro e; rw [e] at h3; exact h3 rfl)
    have hb3 : (((s[k]'hks).toNat : Int) != 34) = true:=by simpa using h3
    clear h3
    have HX2:=keep (show Look s (i + 1) (k + 1) (X ++ s.extract k (k + 1)).data.toList by rw [snoc_bytes,one_byte hks]; exact Look.step HK.out hk1 hks H3.out)
    have HXS:=show (X ++ s.extract k (k + 1)).size ≤ k + 1 by rw [ByteArray.size_append,ByteArray.size_extract]; omega
    have ht1 : ((k : Int) + 1).toNat = k + 1:=by omega
    have hw1 : IntKind.i64.wrap ((k : Int) + 1) = (k : Int) + 1:=Go.IntWalk.i64_in _ (by omega)
    have hc0 : (0 : Int) ≤ (k : Int) + 1:=by omega
    have hc1 : (k : Int) ≤ (k : Int) + 1:=by omega
    have hc2 : (k : Int) + 1 ≤ (s.size : Int):=by omega
    go_upto_region 6 with fail
    have HD:=Lib.hid HR.out.drew
    refine wp_region_any (by kernel_rfl) ?_
    change wpAny _ _ _ _ _ _ _ wp.drew
    generalize wp.drew = W1 at HD ⊢
    have F4:=HD.out.sees
    simp only [sees,kVar,cellsAt,Nat.reduceAdd] at F4
    obtain ⟨⟨⟨z0,fz0⟩,c0_0,c0_1,c0_2,c0_3,c0_4,c0_5,c0_6,c0_7,-⟩,⟨⟨z1,fz1⟩,c1_0,c1_1,c1_2,c1_3,c1_4,c1_5,c1_6,c1_7,-⟩,-⟩:=F4
    refine tn (i:=0) (v:=?a1) rfl ?b1 ?c1
    case b1 => (intro w; go_simp; (try rw [if_neg (by omega)]); (try with_reducible rfl))
    try simp only [Act.put,p1,p2,p3,p4,p6]
    refine tn (i:=2) (v:=?a3) rfl ?b3 ?c3
    case b3 => (intro w; go_simp; (try rw [if_neg (by omega)]); (try with_reducible rfl))
    try simp only [Act.put,p1,p2,p3,p4,p5,p6]
    refine tn (i:=3) (v:=?a5) rfl ?b5 ?c5
    case b5 => (intro w; go_simp; (try rw [if_neg (by omega)]); (try with_reducible rfl))
    try simp only [Act.put,p1,p2,p3,p4,p5,p6]
    refine tn (i:=4) (v:=?a7) rfl ?b7 ?c7
    case b7 => (intro w; go_simp; (try rw [if_neg (by omega)]); (try with_reducible rfl))
    try simp only [Act.put,p1,p2,p3,p4,p5,p6]
    refine tn (i:=5) (v:=?a9) rfl ?b9 ?c9
    case b9 => (intro w; go_simp; (try rw [if_neg (by omega)]); (try with_reducible rfl))
    try simp only [Act.put,p1,p2,p3,p4,p5,p6]
    refine tn (i:=6) (v:=?a11) rfl ?b11 ?c11
    case b11 => (intro w; go_simp; (try rw [if_neg (by omega)]); (try with_reducible rfl))
    try simp only [Act.put,p1,p2,p3,p4,p5,p6]
    refine wpAny_ready (rs:=[1]) (by kernel_rfl) (by simp) ?_
    refine (AllReady.cons rfl (fun K hK => ?_) AllReady.nil)
    ·go_simp
     refine hK _ _ ?_
     clear hK K
     try simp only [Act.put,p1,p2,p3,p4,p5,p6]
     refine tn (i:=7) (v:=?a14) rfl ?b14 ?c14
     case b14 => (intro w; go_simp; (try rw [if_neg (by omega)]); (try with_reducible rfl))
     try simp only [Act.put,p1,p2,p3,p4,p5,p6]
     refine tn (i:=8) (v:=?a16) rfl ?b16 ?c16
     case b16 => (intro w; go_simp; (try rw [if_neg (by omega)]); (try with_reducible rfl))
     try simp only [Act.put,p1,p2,p3,p4,p5,p6]
     refine wpAny_ready (rs:=[9]) (by kernel_rfl) (by simp) ?_
     refine (AllReady.cons rfl (fun K hK => ?_) AllReady.nil)
     ·go_simp
      refine hK _ _ ?_
      clear hK K
      try simp only [Act.put,p1,p2,p3,p4,p5,p6]
      refine wpAny_done (by kernel_rfl) ?_ _
      have HS:=Lib.hid (HD.out.set_ (i:=2) (u:=.string (X ++ s.extract k (k + 1))) (by omega) (by simp [kVar]))
      clear z0 fz0 c0_0 c0_1 c0_2 c0_3 c0_4 c0_5 c0_6 c0_7 z1 fz1 c1_0 c1_1 c1_2 c1_3 c1_4 c1_5 c1_6 c1_7
      go_wp2_with fail
      go_roundw
      case rel => exact ⟨k + 1,X ++ s.extract k (k + 1),by omega,by omega,HXS,by go_num,HX2,HS⟩
      case measure => simp [intOf]; omega
  ·obtain rfl : k = s.size:=by omega
   have HN:=keep (txt_open hi H34.out (Look.out HK.out))
   have F4:=HR.out.sees
   simp only [sees,kVar,cellsAt,Nat.reduceAdd] at F4
   obtain ⟨⟨⟨z0,fz0⟩,c0_0,c0_1,c0_2,c0_3,c0_4,c0_5,c0_6,c0_7,-⟩,⟨⟨z1,fz1⟩,c1_0,c1_1,c1_2,c1_3,c1_4,c1_5,c1_6,c1_7,-⟩,-⟩:=F4
   go_wp2_with fail
   have hK:=HR.out.get (kVar (w.heap.size) 43 [.int .u8 0,.int .i64 0,.string ⟨#[]⟩,.int .i64 0,.int .i64 0,.int .i64 0,.int .i64 0,.int .i64 0]) (by simp)
   have hB:=HR.out.bel
   have hE:=(((((((((show Blk wp (w.heap.size) 43 _ from hK).set_ 0 (.int .u8 2)).set_ 1 (.int .i64 0)).set_ 2 (.string X)).set_ 3 (.int .i64 0)).set_ 4 (.int .i64 0)).set_ 5 (.int .i64 0)).set_ 6 (.int .i64 0)).set_ 7 (.int .i64 (i : Int)))
   have r0:=hE.cell 0
   have r1:=hE.cell 1
   have r2:=hE.cell 2
   have r3:=hE.cell 3
   have r4:=hE.cell 4
   have r5:=hE.cell 5
   have r6:=hE.cell 6
   have r7:=hE.cell 7
   simp at r0 r1 r2 r3 r4 r5 r6 r7
   refine bodyPost_ret (v:=.tuple #[.agg #[.int .u8 2,.int .i64 0,.string X,.int .i64 0,.int .i64 0,.int .i64 0,.int .i64 0,.int .i64 (i : Int)],.int .i64 0,.bool false]) (by simp [results,Tryz.results71,go_sem,r0,r1,r2,r3,r4,r5,r6,r7]) rfl ⟨refout_none ⟨2,0,X.data.toList,R4.zero,i⟩ HN.out,((((((((hB.setCell (by simp) _).setCell (by simp) _).setCell (by simp) _).setCell (by simp) _).setCell (by simp) _).setCell (by simp) _).setCell (by simp) _).setCell (by simp) _)⟩
theorem letV_up (b : UInt8) : letV (upB b) = letV b:=by
 by_cases h : 97 ≤ b.toNat ∧ b.toNat ≤ 122
 ·have:=upB_low b h
  unfold letV
  rw [if_pos (by omega),if_neg (by omega),if_pos h]
  omega
 ·rw [upB_same b h]
theorem dig_up (b : UInt8) : isDig (upB b) = isDig b:=by
 by_cases h : 97 ≤ b.toNat ∧ b.toNat ≤ 122
 ·have:=upB_low b h
  unfold isDig
  rw [decide_eq_false (by omega),decide_eq_false (by omega)]
 ·rw [upB_same b h]
theorem let_up (b : UInt8) : isLet (upB b) = isLet b:=by unfold isLet; rw [letV_up]
theorem parse_up (l : List UInt8) : parseS (l.map upB) = parseS l:=by
 have hp : (isLet ∘ upB) = isLet:=funext let_up
 have h1 : (l.map upB).takeWhile isLet = (l.takeWhile isLet).map upB:=by rw [List.takeWhile_map,hp]
 have h2 : (l.map upB).dropWhile isLet = (l.dropWhile isLet).map upB:=by rw [List.dropWhile_map,hp]
 have h3 : colOf ((l.takeWhile isLet).map upB) = colOf (l.takeWhile isLet):=by
  unfold colOf
  rw [List.foldl_map]
  congr 1
  funext n b
  unfold stepC
  rw [letV_up]
 have h4 : ((l.dropWhile isLet).map upB).all isDig = (l.dropWhile isLet).all isDig:=by
  rw [List.all_map]
  congr 1
  exact funext dig_up
 unfold parseS
 simp only [h1,h2,h3,h4,List.map_eq_nil_iff]
 by_cases hd : (l.dropWhile isLet).all isDig = true
 ·have h5 : (l.dropWhile isLet).map upB = l.dropWhile isLet:=by
   have : ∀ b ∈ l.dropWhile isLet,upB b = b:=by
    intro b hb
    have h6:=List.all_eq_true.1 hd b hb
    unfold isDig at h6
    exact upB_same b (by simp at h6; omega)
   exact (List.map_congr_left this).trans (List.map_id _)
  rw [h5]
 ·rw [if_pos (by simp [hd]),if_pos (by simp [hd])]
def begB (l x : List UInt8) : Bool:=decide ((l.take x.length).map upB = x)
theorem beg_short {l x : List UInt8} (h : l.length < x.length) : begB l x = false:=by
 unfold begB
 rw [decide_eq_false]
 intro e
 have:=congrArg List.length e
 rw [List.length_map,List.length_take] at this
 omega
theorem beg_bytes {s x U : ByteArray} {i q : Nat} (hq : i + x.size = q) (hU : U.data.toList = (s.extract i q).data.toList.map upB) : (U.toList == x.toList) = begB (restB s i) x.data.toList:=by
 have hx : x.data.toList.length = x.size:=by rw [Array.length_toList]; rfl
 rw [Lib.toList_data,Lib.toList_data,hU,Bool.eq_iff_iff,beq_iff_eq]
 unfold begB restB
 rw [decide_eq_true_eq,Lib.extract_data,hx,show q - i = x.size by omega]
set_option maxRecDepth 100000 in
set_option maxHeartbeats 8000000 in
theorem ref7_begins (s x : ByteArray) (i : Nat) (w : World) (hs : s.size ≤ 256) (hx : x.size ≤ 16) (hi : i ≤ s.size) :
  Calls Tryz.prog 109 #[.string s,.int .i64 (i : Int),.string x] w fun e w' => e = .returned (.bool (begB (restB s i) x.data.toList)) ∧ Below w.heap.size w w':=by
 have hxl : x.data.toList.length = x.size:=by rw [Array.length_toList]; rfl
 have hrl : (restB s i).length + i = s.size:=by unfold restB; rw [List.length_drop,Array.length_toList]; show s.size - i + i = _; omega
 obtain ⟨q,hq⟩ : ∃ q,i + x.size = q:=⟨_,rfl⟩
 have HQ:=keep hq
 have hqi : (i : Int) + (x.size : Int) = (q : Int):=by omega
 have hiq : (i : Int) ≤ q:=by omega
 by_cases h : (q : Int) ≤ s.size
 ·have hBB : ∀ U : ByteArray,U.data.toList = (s.extract i q).data.toList.map upB → (U.toList == x.toList) = begB (restB s i) x.data.toList:=fun U h => beg_bytes hq h
  have HBB:=keep hBB
  clear hBB
  clear hxl hrl hq
  go_enter Tryz.func109,Tryz.ntmps109
  go_wp2_with fail
  refine (ref4_Upper (s.extract i q) _ (by rw [ByteArray.size_extract]; omega)).mono ?_
  rintro e w1 ⟨rfl,hb⟩
  have HW:=Lib.hid hb
  clear hb
  obtain ⟨U,hU⟩ : ∃ U : ByteArray,U = ⟨((s.extract i q).data.toList.map upB).toArray⟩:=⟨_,rfl⟩
  rw [← hU]
  have HB:=keep (HBB.out U (by rw [hU]))
  clear hU
  go_wp2_with fail
  go_ret
  refine ⟨?_,HW.out⟩
  show Ending.returned (Value.bool (U.toList == x.toList)) = _
  rw [HB.out]
 ·have HB:=keep (beg_short (l:=restB s i) (x:=x.data.toList) (by rw [hxl]; omega))
  clear hxl hrl hq
  go_enter Tryz.func109,Tryz.ntmps109
  go_wp2_with fail
  go_ret
  refine ⟨?_,Below.refl _ _⟩
  show Ending.returned (Value.bool false) = _
  rw [HB.out]
def AdrOut (i : Nat) (r : Option (Int × Int × Nat)) (e : Ending) : Prop:=∃ (c t : Int) (n : Nat),e = .returned (.tuple #[.agg #[.int .i64 c,.int .i64 t],.int .i64 (n : Int),.bool r.isSome]) ∧ ∀ x,r = some x → c = x.1 ∧ t = x.2.1 ∧ n = i + x.2.2
theorem adrout_none {i : Nat} {r : Option (Int × Int × Nat)} (c t : Int) (n : Nat) (h : r = none) : AdrOut i r (.returned (.tuple #[.agg #[.int .i64 c,.int .i64 t],.int .i64 (n : Int),.bool false])) :=
 ⟨c,t,n,by rw [h]; rfl,fun x hx => by rw [h] at hx; cases hx⟩
theorem adrout_some {i n : Nat} {r : Option (Int × Int × Nat)} {c t : Int} (m : Nat) (h : r = some (c,t,n)) (hm : m = i + n) : AdrOut i r (.returned (.tuple #[.agg #[.int .i64 c,.int .i64 t],.int .i64 (m : Int),.bool true])) :=
 ⟨c,t,m,by rw [h]; rfl,fun x hx => by rw [h] at hx; cases hx; exact ⟨rfl,rfl,hm⟩⟩
theorem addr_eq (s : ByteArray) (i z : Nat) (c r e : Int) (hl : testAt isLet s i = true) (hz : i + (wrdRun s i).length = z) (hp : parseS (wrdRun s i) = (c,r,e)) :
  addrS (restB s i) = if e = 0 ∧ testAt (· == 40) s z = false then some (c,r,(wrdRun s i).length) else none:=by
 have hw : (restB s i).takeWhile isWrd = wrdRun s i:=rfl
 have hh : (restB s i).head?.any isLet = true:=by
  unfold restB
  rw [List.head?_drop]
  exact hl
 have hd : ((restB s i).dropWhile isWrd).head? = s.data.toList[z]?:=by
  have h1:=(run_split isWrd (restB s i)).1
  have h2 : (restB s i).dropWhile isWrd = (restB s i).drop (wrdRun s i).length:=by
   conv => rhs; rw [h1]
   rw [hw,List.drop_left]
  rw [h2]
  unfold restB
  rw [List.drop_drop,List.head?_drop,hz]
 unfold addrS
 simp only [hw,hh,hd,parse_up,hp,true_and]
 unfold testAt
 cases s.data.toList[z]? with
 | none => simp
 | some b => simp
theorem addr_no (s : ByteArray) (i : Nat) (hl : testAt isLet s i = false) : addrS (restB s i) = none:=by
 have hh : (restB s i).head?.any isLet = false:=by
  unfold restB
  rw [List.head?_drop]
  exact hl
 unfold addrS
 simp [hh]
theorem wrd_ext (s : ByteArray) (i z : Nat) (hz : i + (wrdRun s i).length = z) : (s.extract i z).data.toList = wrdRun s i:=by
 rw [Lib.extract_data,← hz,Nat.add_sub_cancel_left]
 exact take_run isWrd (restB s i)
theorem wrd_le (s : ByteArray) (i : Nat) (hi : i ≤ s.size) : i + (wrdRun s i).length ≤ s.size:=by
 have h1 : (wrdRun s i).length ≤ (s.data.toList.drop i).length:=(List.takeWhile_sublist _).length_le
 have hsl : s.data.toList.length = s.size:=by rw [Array.length_toList]; rfl
 rw [List.length_drop] at h1
 omega
theorem par_at {s : ByteArray} {z : Nat} (h : z < s.size) : testAt (· == 40) s z = decide (((s[z]'h).toNat : Int) = 40):=by
 rw [test_in h,Bool.eq_iff_iff,beq_iff_eq,decide_eq_true_eq,← UInt8.toNat_inj]
 show _ = 40 ↔ _
 omega
set_option maxRecDepth 100000 in
set_option maxHeartbeats 8000000 in
theorem ref7_address (s : ByteArray) (i : Nat) (w : World) (hs : s.size ≤ 256) (hi : i ≤ s.size) :
  Calls Tryz.prog 107 #[.string s,.int .i64 (i : Int)] w fun e w' => AdrOut i (addrS (restB s i)) e ∧ Below w.heap.size w w':=by
 cases hl : testAt isLet s i
 ·have HL:=keep hl
  clear hl
  have H1:=Lib.hid (Ok.start w)
  go_enter Tryz.func107,Tryz.ntmps107
  go_wp2_with fail
  have H2:=Lib.hid (H1.out.var w.heap.size 104 [.int .i64 0,.int .i64 0] rfl)
  clear H1
  generalize (w.alloc (.cells #[.int .i64 0,.int .i64 0] 104)) = W3 at H2 ⊢
  refine (ref7_letter s i _).mono ?_
  rintro e w4 ⟨rfl,hw5⟩
  obtain rfl : W3 = w4:=hw5.symm
  rw [HL.out]
  have F6:=H2.out.sees
  simp only [sees,kVar,cellsAt,Nat.reduceAdd] at F6
  obtain ⟨⟨⟨z0,fz0⟩,c0_0,c0_1,-⟩,-⟩:=F6
  go_wp2_with fail
  have hK:=H2.out.get (kVar (w.heap.size) 104 [.int .i64 0,.int .i64 0]) (by simp)
  have hB:=H2.out.bel
  have hE:=(((show Blk W3 (w.heap.size) 104 _ from hK).set_ 0 (.int .i64 0)).set_ 1 (.int .i64 0))
  have r0:=hE.cell 0
  have r1:=hE.cell 1
  simp at r0 r1
  refine bodyPost_ret (v:=.tuple #[.agg #[.int .i64 0,.int .i64 0],.int .i64 0,.bool false]) (by simp [results,Tryz.results107,go_sem,r0,r1]) rfl ⟨adrout_none 0 0 0 (addr_no s i HL.out),((hB.setCell (by simp) _).setCell (by simp) _)⟩
 ·have HL:=keep hl
  clear hl
  obtain ⟨z,hz⟩ : ∃ z,i + (wrdRun s i).length = z:=⟨_,rfl⟩
  have hzs : z ≤ s.size:=by rw [← hz]; exact wrd_le s i hi
  have hiz : i ≤ z:=by omega
  obtain ⟨c,r,e0,hp⟩ : ∃ c r e0,parseS (wrdRun s i) = (c,r,e0):=⟨_,_,_,rfl⟩
  have HEQ:=keep (addr_eq s i z c r e0 HL.out hz hp)
  have HZ:=keep hz
  have HP:=keep (show parseS (s.extract i z).data.toList = (c,r,e0) by rw [wrd_ext s i z hz]; exact hp)
  clear hz hp
  have H1:=Lib.hid (Ok.start w)
  go_enter Tryz.func107,Tryz.ntmps107
  go_wp2_with fail
  have H2:=Lib.hid (H1.out.var w.heap.size 104 [.int .i64 0,.int .i64 0] rfl)
  clear H1
  generalize (w.alloc (.cells #[.int .i64 0,.int .i64 0] 104)) = W3 at H2 ⊢
  refine (ref7_letter s i _).mono ?_
  rintro e w4 ⟨rfl,hw5⟩
  obtain rfl : W3 = w4:=hw5.symm
  rw [HL.out]
  go_wp2_with fail
  refine (ref7_wordEnd s i _ (by omega) hi).mono ?_
  rintro e w7 ⟨rfl,hw7⟩
  obtain rfl : W3 = w7:=hw7.symm
  rw [HZ.out]
  go_wp2_with fail
  refine (ref_Parse (s.extract i z) _ (by rw [ByteArray.size_extract]; omega)).mono ?_
  rintro e w6 ⟨rfl,hb7⟩
  rw [HP.out]
  have H8:=Lib.hid (H2.out.below hb7)
  clear hb7 H2
  have F9:=H8.out.sees
  simp only [sees,kVar,cellsAt,Nat.reduceAdd] at F9
  obtain ⟨⟨⟨z0,fz0⟩,c0_0,c0_1,-⟩,-⟩:=F9
  go_upto_region 5 with fail
  clear z0 fz0 c0_0 c0_1
  have H10:=Lib.hid (H8.out.alloc w6.heap.size 104 [.int .i64 c,.int .i64 r] rfl)
  clear H8
  generalize (w6.alloc (.cells #[.int .i64 c,.int .i64 r] 104)) = W11 at H10 ⊢
  have HD:=Lib.hid H10.out.drew
  clear H10
  by_cases h0 : e0 = 0
  ·subst h0
   by_cases hzl : (z : Int) = s.size
   ·have hzb : ((z : Int) == (s.size : Int)) = true:=by simpa using hzl
    have HRES:=keep (show addrS (restB s i) = some (c,r,(wrdRun s i).length) by rw [HEQ.out,if_pos ⟨rfl,test_out (by omega)⟩])
    clear hzl
    refine wp_region_any (by kernel_rfl) ?_
    change wpAny _ _ _ _ _ _ _ W11.drew
    generalize W11.drew = W9 at HD ⊢
    have F12:=HD.out.sees
    simp only [sees,kBlk,kVar,cellsAt,Nat.reduceAdd] at F12
    obtain ⟨⟨z0,c0_0,c0_1,-⟩,⟨⟨z1,fz1⟩,c1_0,c1_1,-⟩,-⟩:=F12
    refine tn (i:=1) (v:=?a19) rfl ?b19 ?c19
    case b19 => (intro w; go_simp; (try rw [if_neg (by omega)]); (try with_reducible rfl))
    try simp only [Act.put,p1,p2,p3,p4,p5,p6]
    refine tn (i:=2) (v:=?a21) rfl ?b21 ?c21
    case b21 => (intro w; go_simp; (try rw [if_neg (by omega)]); (try with_reducible rfl))
    try simp only [Act.put,p1,p2,p3,p4,p5,p6]
    refine tn (i:=3) (v:=?a23) rfl ?b23 ?c23
    case b23 => (intro w; go_simp; (try rw [if_neg (by omega)]); (try with_reducible rfl))
    try simp only [Act.put,p1,p2,p3,p4,p5,p6]
    refine tn (i:=4) (v:=?a25) rfl ?b25 ?c25
    case b25 => (intro w; go_simp; (try rw [if_neg (by omega)]); (try with_reducible rfl))
    try simp only [Act.put,p1,p2,p3,p4,p5,p6]
    refine tn (i:=5) (v:=?a27) rfl ?b27 ?c27
    case b27 => (intro w; go_simp; (try rw [if_neg (by omega)]); (try with_reducible rfl))
    try simp only [Act.put,p1,p2,p3,p4,p5,p6]
    refine tn (i:=6) (v:=?a29) rfl ?b29 ?c29
    case b29 => (intro w; go_simp; (try rw [if_neg (by omega)]); (try with_reducible rfl))
    try simp only [Act.put,p1,p2,p3,p4,p5,p6]
    refine tn (i:=7) (v:=?a31) rfl ?b31 ?c31
    case b31 => (intro w; go_simp; (try rw [if_neg (by omega)]); (try with_reducible rfl))
    try simp only [Act.put,p1,p2,p3,p4,p5,p6]
    refine tn (i:=8) (v:=?a33) rfl ?b33 ?c33
    case b33 => (intro w; go_simp; (try rw [if_neg (by omega)]); (try with_reducible rfl))
    try simp only [Act.put,p1,p2,p3,p4,p5,p6]
    refine tn (i:=9) (v:=?a35) rfl ?b35 ?c35
    case b35 => (intro w; go_simp; (try rw [if_neg (by omega)]); (try with_reducible rfl))
    try simp only [Act.put,p1,p2,p3,p4,p5,p6]
    refine wpAny_take (i:=10) (v:=undef) rfl (by kernel_rfl) (by kernel_rfl) (by kernel_rfl) (fun _ _ _ h => h) (Or.inr ⟨by rfl,rfl⟩) ?_
    try simp only [Act.put,p1,p2,p3,p4,p5,p6]
    refine wpAny_take (i:=11) (v:=undef) rfl (by kernel_rfl) (by kernel_rfl) (by kernel_rfl) (fun _ _ _ h => h) (Or.inr ⟨by rfl,rfl⟩) ?_
    try simp only [Act.put,p1,p2,p3,p4,p5,p6]
    refine wpAny_take (i:=12) (v:=undef) rfl (by kernel_rfl) (by kernel_rfl) (by kernel_rfl) (fun _ _ _ h => h) (Or.inr ⟨by rfl,rfl⟩) ?_
    try simp only [Act.put,p1,p2,p3,p4,p5,p6]
    refine wpAny_take (i:=13) (v:=undef) rfl (by kernel_rfl) (by kernel_rfl) (by kernel_rfl) (fun _ _ _ h => h) (Or.inr ⟨by rfl,rfl⟩) ?_
    try simp only [Act.put,p1,p2,p3,p4,p5,p6]
    refine tn (i:=14) (v:=?a41) rfl ?b41 ?c41
    case b41 => (intro w; go_simp; (try rw [if_neg (by omega)]); (try with_reducible rfl))
    try simp only [Act.put,p1,p2,p3,p4,p5,p6]
    refine tn (i:=15) (v:=?a43) rfl ?b43 ?c43
    case b43 => (intro w; go_simp; (try rw [if_neg (by omega)]); (try with_reducible rfl))
    try simp only [Act.put,p1,p2,p3,p4,p5,p6]
    refine wpAny_ready (rs:=[0]) (by kernel_rfl) (by simp) ?_
    refine (AllReady.cons rfl (fun K hK => ?_) AllReady.nil)
    ·go_simp
     refine hK _ _ ?_
     clear hK K
     try simp only [Act.put,p1,p2,p3,p4,p5,p6]
     refine wpAny_ready (rs:=[16]) (by kernel_rfl) (by simp) ?_
     refine (AllReady.cons rfl (fun K hK => ?_) AllReady.nil)
     ·go_simp
      refine hK _ _ ?_
      clear hK K
      try simp only [Act.put,p1,p2,p3,p4,p5,p6]
      refine tn (i:=17) (v:=?a47) rfl ?b47 ?c47
      case b47 => (intro w; go_simp; (try rw [if_neg (by omega)]); (try with_reducible rfl))
      try simp only [Act.put,p1,p2,p3,p4,p5,p6]
      refine tn (i:=18) (v:=?a49) rfl ?b49 ?c49
      case b49 => (intro w; go_simp; (try rw [if_neg (by omega)]); (try with_reducible rfl))
      try simp only [Act.put,p1,p2,p3,p4,p5,p6]
      refine wpAny_done (by kernel_rfl) ?_ _
      go_wp2_with fail
      have hK:=HD.out.get (kVar (w.heap.size) 104 [.int .i64 0,.int .i64 0]) (by simp)
      have hB:=HD.out.bel
      have hE:=(((show Blk W9 (w.heap.size) 104 _ from hK).set_ 0 (.int .i64 c)).set_ 1 (.int .i64 r))
      have r0:=hE.cell 0
      have r1:=hE.cell 1
      simp at r0 r1
      refine bodyPost_ret (v:=.tuple #[.agg #[.int .i64 c,.int .i64 r],.int .i64 (z : Int),.bool true]) (by simp [results,Tryz.results107,go_sem,r0,r1]) rfl ⟨adrout_some z HRES.out HZ.out.symm,((hB.setCell (by simp) _).setCell (by simp) _)⟩
   ·have hzb : ((z : Int) == (s.size : Int)) = false:=by simpa using hzl
    have hzl2 : z < s.size:=by omega
    by_cases h40 : ((s[z]'hzl2).toNat : Int) = 40
    ·have hb40 : (((s[z]'hzl2).toNat : Int) != 40) = false:=by rw [h40]; rfl
     have HRES:=keep (show addrS (restB s i) = none by rw [HEQ.out,if_neg]; rintro ⟨-,h⟩; rw [par_at hzl2,decide_eq_true h40] at h; cases h)
     clear h40 hzl
     refine wp_region_any (by kernel_rfl) ?_
     change wpAny _ _ _ _ _ _ _ W11.drew
     generalize W11.drew = W9 at HD ⊢
     have F12:=HD.out.sees
     simp only [sees,kBlk,kVar,cellsAt,Nat.reduceAdd] at F12
     obtain ⟨⟨z0,c0_0,c0_1,-⟩,⟨⟨z1,fz1⟩,c1_0,c1_1,-⟩,-⟩:=F12
     refine tn (i:=1) (v:=?a51) rfl ?b51 ?c51
     case b51 => (intro w; go_simp; (try rw [if_neg (by omega)]); (try with_reducible rfl))
     try simp only [Act.put,p1,p2,p3,p4,p5,p6]
     refine tn (i:=2) (v:=?a53) rfl ?b53 ?c53
     case b53 => (intro w; go_simp; (try rw [if_neg (by omega)]); (try with_reducible rfl))
     try simp only [Act.put,p1,p2,p3,p4,p5,p6]
     refine tn (i:=3) (v:=?a55) rfl ?b55 ?c55
     case b55 => (intro w; go_simp; (try rw [if_neg (by omega)]); (try with_reducible rfl))
     try simp only [Act.put,p1,p2,p3,p4,p5,p6]
     refine tn (i:=4) (v:=?a57) rfl ?b57 ?c57
     case b57 => (intro w; go_simp; (try rw [if_neg (by omega)]); (try with_reducible rfl))
     try simp only [Act.put,p1,p2,p3,p4,p5,p6]
     refine tn (i:=5) (v:=?a59) rfl ?b59 ?c59
     case b59 => (intro w; go_simp; (try rw [if_neg (by omega)]); (try with_reducible rfl))
     try simp only [Act.put,p1,p2,p3,p4,p5,p6]
     refine tn (i:=6) (v:=?a61) rfl ?b61 ?c61
     case b61 => (intro w; go_simp; (try rw [if_neg (by omega)]); (try with_reducible rfl))
     try simp only [Act.put,p1,p2,p3,p4,p5,p6]
     refine tn (i:=7) (v:=?a63) rfl ?b63 ?c63
     case b63 => (intro w; go_simp; (try rw [if_neg (by omega)]); (try with_reducible rfl))
     try simp only [Act.put,p1,p2,p3,p4,p5,p6]
     refine tn (i:=8) (v:=?a65) rfl ?b65 ?c65
     case b65 => (intro w; go_simp; (try rw [if_neg (by omega)]); (try with_reducible rfl))
     try simp only [Act.put,p1,p2,p3,p4,p5,p6]
     refine tn (i:=9) (v:=?a67) rfl ?b67 ?c67
     case b67 => (intro w; go_simp; (try rw [if_neg (by omega)]); (try with_reducible rfl))
     try simp only [Act.put,p1,p2,p3,p4,p5,p6]
     refine tn (i:=10) (v:=?a69) rfl ?b69 ?c69
     case b69 => (intro w; go_simp; (try rw [if_neg (by omega)]); (try with_reducible rfl))
     try simp only [Act.put,p1,p2,p3,p4,p5,p6]
     refine tn (i:=11) (v:=?a71) rfl ?b71 ?c71
     case b71 => (intro w; go_simp; (try rw [if_neg (by omega)]); (try with_reducible rfl))
     try simp only [Act.put,p1,p2,p3,p4,p5,p6]
     refine tn (i:=12) (v:=?a73) rfl ?b73 ?c73
     case b73 => (intro w; go_simp; (try rw [if_neg (by omega)]); (try with_reducible rfl))
     try simp only [Act.put,p1,p2,p3,p4,p5,p6]
     refine tn (i:=13) (v:=?a75) rfl ?b75 ?c75
     case b75 => (intro w; go_simp; (try rw [if_neg (by omega)]); (try with_reducible rfl))
     try simp only [Act.put,p1,p2,p3,p4,p5,p6]
     refine tn (i:=14) (v:=?a77) rfl ?b77 ?c77
     case b77 => (intro w; go_simp; (try rw [if_neg (by omega)]); (try with_reducible rfl))
     try simp only [Act.put,p1,p2,p3,p4,p5,p6]
     refine tn (i:=15) (v:=?a79) rfl ?b79 ?c79
     case b79 => (intro w; go_simp; (try rw [if_neg (by omega)]); (try with_reducible rfl))
     try simp only [Act.put,p1,p2,p3,p4,p5,p6]
     refine wpAny_ready (rs:=[0]) (by kernel_rfl) (by simp) ?_
     refine (AllReady.cons rfl (fun K hK => ?_) AllReady.nil)
     ·go_simp
      refine hK _ _ ?_
      clear hK K
      try simp only [Act.put,p1,p2,p3,p4,p5,p6]
      refine wpAny_ready (rs:=[16]) (by kernel_rfl) (by simp) ?_
      refine (AllReady.cons rfl (fun K hK => ?_) AllReady.nil)
      ·go_simp
       refine hK _ _ ?_
       clear hK K
       try simp only [Act.put,p1,p2,p3,p4,p5,p6]
       refine tn (i:=17) (v:=?a83) rfl ?b83 ?c83
       case b83 => (intro w; go_simp; (try rw [if_neg (by omega)]); (try with_reducible rfl))
       try simp only [Act.put,p1,p2,p3,p4,p5,p6]
       refine tn (i:=18) (v:=?a85) rfl ?b85 ?c85
       case b85 => (intro w; go_simp; (try rw [if_neg (by omega)]); (try with_reducible rfl))
       try simp only [Act.put,p1,p2,p3,p4,p5,p6]
       refine wpAny_done (by kernel_rfl) ?_ _
       go_wp2_with fail
       have hK:=HD.out.get (kVar (w.heap.size) 104 [.int .i64 0,.int .i64 0]) (by simp)
       have hB:=HD.out.bel
       have hE:=(((show Blk W9 (w.heap.size) 104 _ from hK).set_ 0 (.int .i64 c)).set_ 1 (.int .i64 r))
       have r0:=hE.cell 0
       have r1:=hE.cell 1
       simp at r0 r1
       refine bodyPost_ret (v:=.tuple #[.agg #[.int .i64 c,.int .i64 r],.int .i64 (z : Int),.bool false]) (by simp [results,Tryz.results107,go_sem,r0,r1]) rfl ⟨adrout_none c r z HRES.out,((hB.setCell (by simp) _).setCell (by simp) _)⟩
    ·have hb40 : (((s[z]'hzl2).toNat : Int) != 40) = true:=by simpa using h40
     have HRES:=keep (show addrS (restB s i) = some (c,r,(wrdRun s i).length) by rw [HEQ.out,if_pos ⟨rfl,by rw [par_at hzl2,decide_eq_false h40]⟩])
     clear h40 hzl
     refine wp_region_any (by kernel_rfl) ?_
     change wpAny _ _ _ _ _ _ _ W11.drew
     generalize W11.drew = W9 at HD ⊢
     have F12:=HD.out.sees
     simp only [sees,kBlk,kVar,cellsAt,Nat.reduceAdd] at F12
     obtain ⟨⟨z0,c0_0,c0_1,-⟩,⟨⟨z1,fz1⟩,c1_0,c1_1,-⟩,-⟩:=F12
     refine tn (i:=1) (v:=?a87) rfl ?b87 ?c87
     case b87 => (intro w; go_simp; (try rw [if_neg (by omega)]); (try with_reducible rfl))
     try simp only [Act.put,p1,p2,p3,p4,p5,p6]
     refine tn (i:=2) (v:=?a89) rfl ?b89 ?c89
     case b89 => (intro w; go_simp; (try rw [if_neg (by omega)]); (try with_reducible rfl))
     try simp only [Act.put,p1,p2,p3,p4,p5,p6]
     refine tn (i:=3) (v:=?a91) rfl ?b91 ?c91
     case b91 => (intro w; go_simp; (try rw [if_neg (by omega)]); (try with_reducible rfl))
     try simp only [Act.put,p1,p2,p3,p4,p5,p6]
     refine tn (i:=4) (v:=?a93) rfl ?b93 ?c93
     case b93 => (intro w; go_simp; (try rw [if_neg (by omega)]); (try with_reducible rfl))
     try simp only [Act.put,p1,p2,p3,p4,p5,p6]
     refine tn (i:=5) (v:=?a95) rfl ?b95 ?c95
     case b95 => (intro w; go_simp; (try rw [if_neg (by omega)]); (try with_reducible rfl))
     try simp only [Act.put,p1,p2,p3,p4,p5,p6]
     refine tn (i:=6) (v:=?a97) rfl ?b97 ?c97
     case b97 => (intro w; go_simp; (try rw [if_neg (by omega)]); (try with_reducible rfl))
     try simp only [Act.put,p1,p2,p3,p4,p5,p6]
     refine tn (i:=7) (v:=?a99) rfl ?b99 ?c99
     case b99 => (intro w; go_simp; (try rw [if_neg (by omega)]); (try with_reducible rfl))
     try simp only [Act.put,p1,p2,p3,p4,p5,p6]
     refine tn (i:=8) (v:=?a101) rfl ?b101 ?c101
     case b101 => (intro w; go_simp; (try rw [if_neg (by omega)]); (try with_reducible rfl))
     try simp only [Act.put,p1,p2,p3,p4,p5,p6]
     refine tn (i:=9) (v:=?a103) rfl ?b103 ?c103
     case b103 => (intro w; go_simp; (try rw [if_neg (by omega)]); (try with_reducible rfl))
     try simp only [Act.put,p1,p2,p3,p4,p5,p6]
     refine tn (i:=10) (v:=?a105) rfl ?b105 ?c105
     case b105 => (intro w; go_simp; (try rw [if_neg (by omega)]); (try with_reducible rfl))
     try simp only [Act.put,p1,p2,p3,p4,p5,p6]
     refine tn (i:=11) (v:=?a107) rfl ?b107 ?c107
     case b107 => (intro w; go_simp; (try rw [if_neg (by omega)]); (try with_reducible rfl))
     try simp only [Act.put,p1,p2,p3,p4,p5,p6]
     refine tn (i:=12) (v:=?a109) rfl ?b109 ?c109
     case b109 => (intro w; go_simp; (try rw [if_neg (by omega)]); (try with_reducible rfl))
     try simp only [Act.put,p1,p2,p3,p4,p5,p6]
     refine tn (i:=13) (v:=?a111) rfl ?b111 ?c111
     case b111 => (intro w; go_simp; (try rw [if_neg (by omega)]); (try with_reducible rfl))
     try simp only [Act.put,p1,p2,p3,p4,p5,p6]
     refine tn (i:=14) (v:=?a113) rfl ?b113 ?c113
     case b113 => (intro w; go_simp; (try rw [if_neg (by omega)]); (try with_reducible rfl))
     try simp only [Act.put,p1,p2,p3,p4,p5,p6]
     refine tn (i:=15) (v:=?a115) rfl ?b115 ?c115
     case b115 => (intro w; go_simp; (try rw [if_neg (by omega)]); (try with_reducible rfl))
     try simp only [Act.put,p1,p2,p3,p4,p5,p6]
     refine wpAny_ready (rs:=[0]) (by kernel_rfl) (by simp) ?_
     refine (AllReady.cons rfl (fun K hK => ?_) AllReady.nil)
     ·go_simp
      refine hK _ _ ?_
      clear hK K
      try simp only [Act.put,p1,p2,p3,p4,p5,p6]
      refine wpAny_ready (rs:=[16]) (by kernel_rfl) (by simp) ?_
      refine (AllReady.cons rfl (fun K hK => ?_) AllReady.nil)
      ·go_simp
       refine hK _ _ ?_
       clear hK K
       try simp only [Act.put,p1,p2,p3,p4,p5,p6]
       refine tn (i:=17) (v:=?a119) rfl ?b119 ?c119
       case b119 => (intro w; go_simp; (try rw [if_neg (by omega)]); (try with_reducible rfl))
       try simp only [Act.put,p1,p2,p3,p4,p5,p6]
       refine tn (i:=18) (v:=?a121) rfl ?b121 ?c121
       case b121 => (intro w; go_simp; (try rw [if_neg (by omega)]); (try with_reducible rfl))
       try simp only [Act.put,p1,p2,p3,p4,p5,p6]
       refine wpAny_done (by kernel_rfl) ?_ _
       go_wp2_with fail
       have hK:=HD.out.get (kVar (w.heap.size) 104 [.int .i64 0,.int .i64 0]) (by simp)
       have hB:=HD.out.bel
       have hE:=(((show Blk W9 (w.heap.size) 104 _ from hK).set_ 0 (.int .i64 c)).set_ 1 (.int .i64 r))
       have r0:=hE.cell 0
       have r1:=hE.cell 1
       simp at r0 r1
       refine bodyPost_ret (v:=.tuple #[.agg #[.int .i64 c,.int .i64 r],.int .i64 (z : Int),.bool true]) (by simp [results,Tryz.results107,go_sem,r0,r1]) rfl ⟨adrout_some z HRES.out HZ.out.symm,((hB.setCell (by simp) _).setCell (by simp) _)⟩
  ·have h0b : (e0 == 0) = false:=by simpa using h0
   have HRES:=keep (show addrS (restB s i) = none by rw [HEQ.out,if_neg]; rintro ⟨h,-⟩; exact h0 h)
   clear h0
   refine wp_region_any (by kernel_rfl) ?_
   change wpAny _ _ _ _ _ _ _ W11.drew
   generalize W11.drew = W9 at HD ⊢
   have F12:=HD.out.sees
   simp only [sees,kBlk,kVar,cellsAt,Nat.reduceAdd] at F12
   obtain ⟨⟨z0,c0_0,c0_1,-⟩,⟨⟨z1,fz1⟩,c1_0,c1_1,-⟩,-⟩:=F12
   refine tn (i:=1) (v:=?a123) rfl ?b123 ?c123
   case b123 => (intro w; go_simp; (try rw [if_neg (by omega)]); (try with_reducible rfl))
   try simp only [Act.put,p1,p2,p3,p4,p5,p6]
   refine tn (i:=2) (v:=?a125) rfl ?b125 ?c125
   case b125 => (intro w; go_simp; (try rw [if_neg (by omega)]); (try with_reducible rfl))
   try simp only [Act.put,p1,p2,p3,p4,p5,p6]
   refine tn (i:=3) (v:=?a127) rfl ?b127 ?c127
   case b127 => (intro w; go_simp; (try rw [if_neg (by omega)]); (try with_reducible rfl))
   try simp only [Act.put,p1,p2,p3,p4,p5,p6]
   refine tn (i:=4) (v:=?a129) rfl ?b129 ?c129
   case b129 => (intro w; go_simp; (try rw [if_neg (by omega)]); (try with_reducible rfl))
   try simp only [Act.put,p1,p2,p3,p4,p5,p6]
   refine wpAny_take (i:=5) (v:=undef) rfl (by kernel_rfl) (by kernel_rfl) (by kernel_rfl) (fun _ _ _ h => h) (Or.inr ⟨by rfl,rfl⟩) ?_
   try simp only [Act.put,p1,p2,p3,p4,p5,p6]
   refine wpAny_take (i:=6) (v:=undef) rfl (by kernel_rfl) (by kernel_rfl) (by kernel_rfl) (fun _ _ _ h => h) (Or.inr ⟨by rfl,rfl⟩) ?_
   try simp only [Act.put,p1,p2,p3,p4,p5,p6]
   refine wpAny_take (i:=7) (v:=undef) rfl (by kernel_rfl) (by kernel_rfl) (by kernel_rfl) (fun _ _ _ h => h) (Or.inr ⟨by rfl,rfl⟩) ?_
   try simp only [Act.put,p1,p2,p3,p4,p5,p6]
   refine wpAny_take (i:=8) (v:=undef) rfl (by kernel_rfl) (by kernel_rfl) (by kernel_rfl) (fun _ _ _ h => h) (Or.inr ⟨by rfl,rfl⟩) ?_
   try simp only [Act.put,p1,p2,p3,p4,p5,p6]
   refine wpAny_take (i:=9) (v:=undef) rfl (by kernel_rfl) (by kernel_rfl) (by kernel_rfl) (fun _ _ _ h => h) (Or.inr ⟨by rfl,rfl⟩) ?_
   try simp only [Act.put,p1,p2,p3,p4,p5,p6]
   refine wpAny_take (i:=10) (v:=undef) rfl (by kernel_rfl) (by kernel_rfl) (by kernel_rfl) (fun _ _ _ h => h) (Or.inr ⟨by rfl,rfl⟩) ?_
   try simp only [Act.put,p1,p2,p3,p4,p5,p6]
   refine wpAny_take (i:=11) (v:=undef) rfl (by kernel_rfl) (by kernel_rfl) (by kernel_rfl) (fun _ _ _ h => h) (Or.inr ⟨by rfl,rfl⟩) ?_
   try simp only [Act.put,p1,p2,p3,p4,p5,p6]
   refine wpAny_take (i:=12) (v:=undef) rfl (by kernel_rfl) (by kernel_rfl) (by kernel_rfl) (fun _ _ _ h => h) (Or.inr ⟨by rfl,rfl⟩) ?_
   try simp only [Act.put,p1,p2,p3,p4,p5,p6]
   refine wpAny_take (i:=13) (v:=undef) rfl (by kernel_rfl) (by kernel_rfl) (by kernel_rfl) (fun _ _ _ h => h) (Or.inr ⟨by rfl,rfl⟩) ?_
   try simp only [Act.put,p1,p2,p3,p4,p5,p6]
   refine wpAny_take (i:=14) (v:=undef) rfl (by kernel_rfl) (by kernel_rfl) (by kernel_rfl) (fun _ _ _ h => h) (Or.inr ⟨by rfl,rfl⟩) ?_
   try simp only [Act.put,p1,p2,p3,p4,p5,p6]
   refine tn (i:=15) (v:=?a141) rfl ?b141 ?c141
   case b141 => (intro w; go_simp; (try rw [if_neg (by omega)]); (try with_reducible rfl))
   try simp only [Act.put,p1,p2,p3,p4,p5,p6]
   refine wpAny_ready (rs:=[0]) (by kernel_rfl) (by simp) ?_
   refine (AllReady.cons rfl (fun K hK => ?_) AllReady.nil)
   ·go_simp
    refine hK _ _ ?_
    clear hK K
    try simp only [Act.put,p1,p2,p3,p4,p5,p6]
    refine wpAny_ready (rs:=[16]) (by kernel_rfl) (by simp) ?_
    refine (AllReady.cons rfl (fun K hK => ?_) AllReady.nil)
    ·go_simp
     refine hK _ _ ?_
     clear hK K
     try simp only [Act.put,p1,p2,p3,p4,p5,p6]
     refine tn (i:=17) (v:=?a145) rfl ?b145 ?c145
     case b145 => (intro w; go_simp; (try rw [if_neg (by omega)]); (try with_reducible rfl))
     try simp only [Act.put,p1,p2,p3,p4,p5,p6]
     refine tn (i:=18) (v:=?a147) rfl ?b147 ?c147
     case b147 => (intro w; go_simp; (try rw [if_neg (by omega)]); (try with_reducible rfl))
     try simp only [Act.put,p1,p2,p3,p4,p5,p6]
     refine wpAny_done (by kernel_rfl) ?_ _
     go_wp2_with fail
     have hK:=HD.out.get (kVar (w.heap.size) 104 [.int .i64 0,.int .i64 0]) (by simp)
     have hB:=HD.out.bel
     have hE:=(((show Blk W9 (w.heap.size) 104 _ from hK).set_ 0 (.int .i64 c)).set_ 1 (.int .i64 r))
     have r0:=hE.cell 0
     have r1:=hE.cell 1
     simp at r0 r1
     refine bodyPost_ret (v:=.tuple #[.agg #[.int .i64 c,.int .i64 r],.int .i64 (z : Int),.bool false]) (by simp [results,Tryz.results107,go_sem,r0,r1]) rfl ⟨adrout_none c r z HRES.out,((hB.setCell (by simp) _).setCell (by simp) _)⟩
end
end Go.Proofs.YtlngjiibbcgkmaaGreatDoor
