/- Contracts of package addr's and its reference's small functions: Less, Index. Contracts of package addr's At and Letters and of their references. Contracts of package addr's Format and of its reference. Condition: the library's table of powers of ten holds what its initialiser lays. The library's table of powers of ten, out of the row's list. -/
import Derived.Test.YtnbemkiplnanlaaGreatDoorMIterV
import Derived.Test.YtnbemkiplnanlaaGreatDoorMShelf
import Derived.Test.YtnbemkiplnanlaaGreatDoorMAddrP
import Derived.Lib.SmallJoins
import Derived.Lib.AppendIntMem
import Derived.LaidSub
namespace Go.Proofs.YtnbemkiplnanlaaGreatDoor
open Go.RowKit
end Go.Proofs.YtnbemkiplnanlaaGreatDoor
namespace Go.Proofs.YtnbemkiplnanlaaGreatDoor
open Go.RowKit
theorem encode_small (n : Nat) (h : n < 128) : Utf8.encode (n : Int) = ⟨#[UInt8.ofNat n]⟩:=by
 have hv : Utf8.valid (n : Int) = true:=by simp [Utf8.valid]; omega
 simp only [Utf8.encode,hv,if_true,Int.toNat_natCast]
 rw [if_pos (by omega)]
theorem bytes_append (x y : List UInt8) : ((⟨x.toArray⟩ : ByteArray) ++ ⟨y.toArray⟩) = ⟨(x ++ y).toArray⟩:=ByteArray.mk_append_mk x y
theorem lettersC_bad (c : Int) (h : ¬ (1 ≤ c ∧ c ≤ 1024)) : lettersC c = ([],3):=by unfold lettersC; rw [if_neg h]
theorem lettersC_good (n : Nat) (h : 1 ≤ (n : Int) ∧ (n : Int) ≤ 1024) : lettersC n = (lettersN n,0):=by unfold lettersC; rw [if_pos h,Int.toNat_natCast]
theorem letter_step (n m : Nat) (acc : List UInt8) (h : lettersN n = lettersN m ++ acc) (h0 : 0 < m) : lettersN n = lettersN ((m - 1) / 26) ++ (UInt8.ofNat (65 + (m - 1) % 26) :: acc):=by
 rw [h,lettersN_pos m h0]; simp
theorem addr_Letters (c : Int) (w : World) (_h0 : -9223372036854775808 ≤ c) (_h1 : c ≤ 9223372036854775807) :
  Calls Tryz.prog 220 #[.int .i64 c] w fun e w' => e = .returned (.tuple #[.string ⟨(lettersC c).1.toArray⟩,.int .i64 (lettersC c).2]) ∧ w = w':=by
 rcases (show c < 1 ∨ (1 ≤ c ∧ 1024 < c) ∨ (1 ≤ c ∧ c ≤ 1024) from by omega) with h | ⟨h0,h⟩ | ⟨h0,h⟩
 ·rw [lettersC_bad c (by omega)]
  go_enter Tryz.func220,Tryz.ntmps220
  go_wp2
  go_ret2
  exact ⟨rfl,rfl⟩
 ·rw [lettersC_bad c (by omega)]
  go_enter Tryz.func220,Tryz.ntmps220
  go_wp2
  go_ret2
  exact ⟨rfl,rfl⟩
 ·obtain ⟨n,rfl⟩:=Int.eq_ofNat_of_zero_le (show 0 ≤ c from by omega)
  rw [lettersC_good n ⟨h0,h⟩]
  go_enter Tryz.func220,Tryz.ntmps220
  go_wp2
  go_loop [0,4] (fun k s => ∃ (m : Nat) (acc : List UInt8),m ≤ n ∧ acc.length + m ≤ 1024 ∧ k = .int .i64 m ∧ s = .string ⟨acc.toArray⟩ ∧ lettersN n = lettersN m ++ acc) (fun k _ => (intOf k).toNat)
  case atStart => exact ⟨n,[],Nat.le_refl _,by simp; omega,rfl,rfl,by simp⟩
  case round =>
   obtain ⟨m,acc,hm,hl,rfl,rfl,hacc⟩:=hrel
   have HA:=Lib.hid hacc
   clear hacc
   rcases Nat.eq_zero_or_pos m with h0 | h0
   ·subst h0
    go_wp2
    go_ret2
    have e:=HA.out
    rw [lettersN_zero,List.nil_append] at e
    rw [e]
    exact ⟨rfl,rfl⟩
   ·have henc : Utf8.encode (65 + ((m : Int) - 1) % 26) = ⟨#[65 + UInt8.ofNat ((m - 1) % 26)]⟩:=by
     rw [show (65 + ((m : Int) - 1) % 26) = ((65 + (m - 1) % 26 : Nat) : Int) from by omega,encode_small _ (by omega)]; simp
    go_wp2
    go_round
    case measure => simp [intOf]; omega
    case rel =>
     refine ⟨(m - 1) / 26,(65 + UInt8.ofNat ((m - 1) % 26)) :: acc,by omega,by simp; omega,by congr 1; omega,congrArg Value.string (bytes_append [_] acc),?_⟩
     have:=letter_step n m acc HA.out h0
     rwa [show UInt8.ofNat (65 + (m - 1) % 26) = 65 + UInt8.ofNat ((m - 1) % 26) from by simp] at this
end Go.Proofs.YtnbemkiplnanlaaGreatDoor
namespace Go.Proofs.YtnbemkiplnanlaaGreatDoor
open Go.RowKit
def Pow (w : World) : Prop := Lib.TabIs Tryz.prog w "internal/strconv.uint64pow10" .u64 Lib.pow10Tab
theorem gPow : Tryz.prog.globalNamed "internal/strconv.uint64pow10" = some 4 := by kernel_rfl
theorem Pow.below {w w' : World} (h : Pow w) (hb : Below w.heap.size w w') : Pow w':=Joins.tab_stays gPow h hb (Nat.le_refl _)
theorem Itoa (n : Int) (h0 : 0 ≤ n) (h1 : n ≤ 9223372036854775807) (w : World) (hp : Pow w) :
  Calls Tryz.prog 221 #[.int .i64 n] w fun e w' => e = .returned (.string ⟨(Lib.decDigits n.toNat).toArray⟩) ∧ Below w.heap.size w w' :=
 (Tryz.strconv_Itoa n (by omega) h1 w hp).mono fun e w' ⟨he,k,os,hw⟩ => by
  refine ⟨?_,hw ▸ Lib.below_grow _ _ (Nat.le_refl _) k os⟩
  rw [he,Lib.itoa,if_neg (by omega)]
theorem lettersN_len (n : Nat) (h : n ≤ 1024) : (lettersN n).length ≤ 1024:=by
 have key : ∀ n : Nat,(lettersN n).length ≤ n:=by
  intro n
  induction n using Nat.strongRecOn with
  | _ n ih =>
   rcases Nat.eq_zero_or_pos n with rfl | hp
   ·simp [lettersN_zero]
   ·rw [lettersN_pos n hp,List.length_append]
    have:=ih ((n - 1) / 26) (by omega)
    simp; omega
 exact Nat.le_trans (key n) h
theorem dec_len (n : Nat) (h : n ≤ 1024) : (Lib.decDigits n).length ≤ 1025:=by
 have key : ∀ n : Nat,(Lib.decDigits n).length ≤ n + 1:=by
  intro n
  induction n using Nat.strongRecOn with
  | _ n ih =>
   by_cases hp : n < 10
   ·rw [dec_small hp]; simp
   ·rw [dec_big hp,List.length_append]
    have:=ih (n / 10) (by omega)
    simp; omega
 exact Nat.le_trans (key n) (by omega)
theorem formatS_bad (c r : Int) (h : validN c r = false) : formatS c r = ([],3):=by unfold formatS; rw [if_neg (by simp [h])]
theorem formatS_good (c r : Int) (h : validN c r = true) : formatS c r = (lettersN c.toNat ++ Lib.decDigits r.toNat,0):=by unfold formatS; rw [if_pos h]
theorem validN_parts {c r : Int} (h : validN c r = true) : 1 ≤ c ∧ c ≤ 1024 ∧ 1 ≤ r ∧ r ≤ 1024:=by simpa [validN] using h
theorem addr_Format (c r : Int) (w : World) (hp : Pow w) :
  Calls Tryz.prog 187 #[.agg #[.int .i64 c,.int .i64 r]] w fun e w' => e = .returned (.tuple #[.string ⟨(formatS c r).1.toArray⟩,.int .i64 (formatS c r).2]) ∧ Below w.heap.size w w':=by
 have HP:=Lib.hid hp
 clear hp
 cases hv : validN c r
 ·rw [formatS_bad c r hv]
  have H:=Lib.hid hv
  clear hv
  go_enter Tryz.func187,Tryz.ntmps187
  go_wp2_with fail
  refine (addr_Valid _ _ _).mono ?_
  rintro e w' ⟨rfl,hb⟩
  rw [H.out]
  have HB:=Lib.hid hb
  clear hb
  go_wp2_with fail
  go_ret2
  exact ⟨rfl,((Below.refl _ _).alloc (Nat.le_refl _) _).trans (HB.out.mono (by simp))⟩
 ·rw [formatS_good c r hv]
  obtain ⟨h1,h2,h3,h4⟩:=validN_parts hv
  have H:=Lib.hid hv
  clear hv
  go_enter Tryz.func187,Tryz.ntmps187
  go_wp2_with fail
  refine (addr_Valid _ _ _).mono ?_
  rintro e w1 ⟨rfl,hb⟩
  rw [H.out]
  have hc0:=hb.cell (p:=⟨w.heap.size,0,none⟩) (by simp)
  have hc1:=hb.cell (p:=⟨w.heap.size,1,none⟩) (by simp)
  have HB:=Lib.hid (((Below.refl w.heap.size w).alloc (Nat.le_refl _) _).trans (hb.mono (by simp)))
  clear hb
  go_wp2_with fail
  refine (addr_Letters _ _ (by omega) (by omega)).mono ?_
  rintro e w2 ⟨rfl,rfl⟩
  rw [show lettersC c = (lettersN c.toNat,0) from by unfold lettersC; rw [if_pos ⟨h1,h2⟩]]
  have hl:=lettersN_len c.toNat (by omega)
  generalize hlc : lettersN c.toNat = lc at hl ⊢
  have HLC:=Lib.hid hlc
  clear hlc
  go_wp2_with fail
  refine (Itoa _ (by omega) (by omega) _ (HP.out.below HB.out)).mono ?_
  rintro e w2 ⟨rfl,hb2⟩
  have hd:=dec_len r.toNat (by omega)
  generalize hlr : Lib.decDigits r.toNat = lr at hd ⊢
  have HLR:=Lib.hid hlr
  clear hlr
  have HB2:=Lib.hid (HB.out.trans (hb2.mono HB.out.size))
  clear hb2
  go_wp2_with fail
  go_ret2
  exact ⟨by rw [bytes_append,HLC.out,HLR.out]; rfl,HB2.out⟩
end Go.Proofs.YtnbemkiplnanlaaGreatDoor
namespace Go.Proofs.YtnbemkiplnanlaaGreatDoor
open Go.RowKit
theorem pow_type : (Tryz.prog.globals[4]?).map (·.type) = some 273:=by kernel_rfl
theorem pow_cells : Tryz.prog.cellsOf 273 = 20:=by kernel_rfl
theorem u64_cells : Tryz.prog.cellsOf 119 = 1:=by kernel_rfl
theorem pow_of_one {W : World} (h : laidMet Tryz.prog [("internal/strconv.uint64pow10", Lib.tabData .u64 Lib.pow10Tab)] W) : Pow W :=
 Lib.tabIs_of_head gPow pow_type Tryz.underlying273 Tryz.underlying119 u64_cells pow_cells h
theorem pow_datum : (Rows.laid_internal_strconv_uint64pow10 : DataW Unit) = Lib.tabData .u64 Lib.pow10Tab:=by kernel_rfl
theorem pow_of_laid {W : World} {l : List (String × DataW Unit)} (h : laidMetH Tryz.prog l W)
  (hl : l.filter (fun x => x.1 == "internal/strconv.uint64pow10") = [("internal/strconv.uint64pow10", Rows.laid_internal_strconv_uint64pow10)]) : Pow W := by
 have h2 := h.filter (fun x => x.1 == "internal/strconv.uint64pow10")
 rw [hl,pow_datum] at h2
 exact pow_of_one h2
end Go.Proofs.YtnbemkiplnanlaaGreatDoor
