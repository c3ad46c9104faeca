/- Contracts of package addr's reader: read, its method add, Parse and Column. Contracts of package addr's reader: read, Parse and Column. Contracts of package addr's Parse and Column. Contracts of package addr's and its reference's small functions: Less, Index. Contracts of package addr's At and Letters and of their references. -/
import Derived.Test.YtmalncmdfmoccaaGreatDoorCKit
import Derived.Test.YtmalncmdfmoccaaGreatDoorCAddrP
import Derived.Test.YtmalncmdfmoccaaGreatDoorCOk
import Derived.Lib.SmallJoins
import Derived.Shelf.Strings.Cut
import Derived.Shelf.Strings.Search2
import Derived.Shelf.Strconv.Itoa3
import Derived.Lib.AppendIntMem
import Derived.BigRegion
import Derived.Test.YtmalncmdfmoccaaGreatDoorCIter
namespace Go.Proofs.YtmalncmdfmoccaaGreatDoor
section
open Go.RowKit
end
section
open Go.RowKit
theorem take_snoc8 (s : ByteArray) (k : Nat) (h : k < s.size) : s.data.toList.take (k + 1) = s.data.toList.take k ++ [s[k]]:=by
  rw [List.take_succ_eq_append_getElem (by simpa using h)]; rfl
end
section
open Go.RowKit
end
end Go.Proofs.YtmalncmdfmoccaaGreatDoor
namespace Go.Proofs.YtmalncmdfmoccaaGreatDoor
open Go.RowKit
end Go.Proofs.YtmalncmdfmoccaaGreatDoor
namespace Go.Proofs.YtmalncmdfmoccaaGreatDoor
open Go.RowKit
theorem encode_small (n : Nat) (h : n < 128) : Utf8.encode (n : Int) = ⟨#[UInt8.ofNat n]⟩:=by
  have hv : Utf8.valid (n : Int) = true:=by simp [Utf8.valid]; omega
  simp only [Utf8.encode,hv,if_true,Int.toNat_natCast]
  rw [if_pos (by omega)]
theorem bytes_append (x y : List UInt8) : ((⟨x.toArray⟩ : ByteArray) ++ ⟨y.toArray⟩) = ⟨(x ++ y).toArray⟩:=ByteArray.mk_append_mk x y
theorem lettersC_bad (c : Int) (h : ¬ (1 ≤ c ∧ c ≤ 1024)) : lettersC c = ([],3):=by unfold lettersC; rw [if_neg h]
theorem lettersC_good (n : Nat) (h : 1 ≤ (n : Int) ∧ (n : Int) ≤ 1024) : lettersC n = (lettersN n,0):=by unfold lettersC; rw [if_pos h,Int.toNat_natCast]
theorem letter_step (n m : Nat) (acc : List UInt8) (h : lettersN n = lettersN m ++ acc) (h0 : 0 < m) : lettersN n = lettersN ((m - 1) / 26) ++ (UInt8.ofNat (65 + (m - 1) % 26) :: acc):=by
  rw [h,lettersN_pos m h0]; simp
theorem addr_Letters (c : Int) (w : World) (_h0 : -9223372036854775808 ≤ c) (_h1 : c ≤ 9223372036854775807) :
    Calls Tryz.prog 192 #[.int .i64 c] w fun e w' => e = .returned (.tuple #[.string ⟨(lettersC c).1.toArray⟩,.int .i64 (lettersC c).2]) ∧ w = w':=by
  rcases (show c < 1 ∨ (1 ≤ c ∧ 1024 < c) ∨ (1 ≤ c ∧ c ≤ 1024) from by omega) with h | ⟨h0,h⟩ | ⟨h0,h⟩
  · rw [lettersC_bad c (by omega)]
    go_enter Tryz.func192,Tryz.ntmps192
    go_wp2
    go_ret2
    exact ⟨rfl,rfl⟩
  · rw [lettersC_bad c (by omega)]
    go_enter Tryz.func192,Tryz.ntmps192
    go_wp2
    go_ret2
    exact ⟨rfl,rfl⟩
  · obtain ⟨n,rfl⟩:=Int.eq_ofNat_of_zero_le (show 0 ≤ c from by omega)
    rw [lettersC_good n ⟨h0,h⟩]
    go_enter Tryz.func192,Tryz.ntmps192
    go_wp2
    go_loop [0,4] (fun k s => ∃ (m : Nat) (acc : List UInt8),m ≤ n ∧ acc.length + m ≤ 1024 ∧ k = .int .i64 m ∧ s = .string ⟨acc.toArray⟩ ∧ lettersN n = lettersN m ++ acc) (fun k _ => (intOf k).toNat)
    case atStart => exact ⟨n,[],Nat.le_refl _,by simp; omega,rfl,rfl,by simp⟩
    case round =>
      obtain ⟨m,acc,hm,hl,rfl,rfl,hacc⟩:=hrel
      have HA:=Lib.hid hacc
      clear hacc
      rcases Nat.eq_zero_or_pos m with h0 | h0
      · subst h0
        go_wp2
        go_ret2
        have e:=HA.out
        rw [lettersN_zero,List.nil_append] at e
        rw [e]
        exact ⟨rfl,rfl⟩
      · have henc : Utf8.encode (65 + ((m : Int) - 1) % 26) = ⟨#[65 + UInt8.ofNat ((m - 1) % 26)]⟩:=by
          rw [show (65 + ((m : Int) - 1) % 26) = ((65 + (m - 1) % 26 : Nat) : Int) from by omega,encode_small _ (by omega)]; simp
        go_wp2
        go_round
        case measure => simp [intOf]; omega
        case rel =>
          refine ⟨(m - 1) / 26,(65 + UInt8.ofNat ((m - 1) % 26)) :: acc,by omega,by simp; omega,by congr 1; omega,congrArg Value.string (bytes_append [_] acc),?_⟩
          have:=letter_step n m acc HA.out h0
          rwa [show UInt8.ofNat (65 + (m - 1) % 26) = 65 + UInt8.ofNat ((m - 1) % 26) from by simp] at this
theorem ref_Letters (c : Int) (w : World) (_h0 : -9223372036854775808 ≤ c) (_h1 : c ≤ 9223372036854775807) :
    Calls Tryz.prog 196 #[.int .i64 c] w fun e w' => e = .returned (.tuple #[.string ⟨(lettersC c).1.toArray⟩,.int .i64 (lettersC c).2]) ∧ Below w.heap.size w w':=by
  rcases (show c < 1 ∨ (1 ≤ c ∧ 1024 < c) ∨ (1 ≤ c ∧ c ≤ 1024) from by omega) with h | ⟨h0,h⟩ | ⟨h0,h⟩
  · rw [lettersC_bad c (by omega)]
    go_enter Tryz.func196,Tryz.ntmps196
    go_wp2
    go_ret2
    exact ⟨rfl,Below.refl _ _⟩
  · rw [lettersC_bad c (by omega)]
    go_enter Tryz.func196,Tryz.ntmps196
    go_wp2
    go_ret2
    exact ⟨rfl,Below.refl _ _⟩
  · obtain ⟨n,rfl⟩:=Int.eq_ofNat_of_zero_le (show 0 ≤ c from by omega)
    rw [lettersC_good n ⟨h0,h⟩]
    have hcv:=fun (W : World) (x : Int) => run_byte1 (P:=Tryz.prog) 95 9 5 Tryz.underlying95 Tryz.underlying5 Tryz.underlying9 W x 5
    go_enter Tryz.func196,Tryz.ntmps196
    go_wp2
    go_loopw [0,4] (fun k s wr => ∃ (m : Nat) (acc : List UInt8),m ≤ n ∧ acc.length + m ≤ 1024 ∧ k = .int .i64 m ∧ s = .string ⟨acc.toArray⟩ ∧ lettersN n = lettersN m ++ acc ∧ Below w.heap.size w wr) (fun k _ _ => (intOf k).toNat)
    case atStart => exact ⟨n,[],Nat.le_refl _,by simp; omega,rfl,rfl,by simp,Below.refl _ _⟩
    case round =>
      obtain ⟨m,acc,hm,hl,rfl,rfl,hacc,hb⟩:=hrel
      have HA:=Lib.hid hacc
      have HB:=Lib.hid hb
      clear hacc hb
      rcases Nat.eq_zero_or_pos m with h0 | h0
      · subst h0
        go_wp2
        go_ret2
        have e:=HA.out
        rw [lettersN_zero,List.nil_append] at e
        rw [e]
        exact ⟨rfl,HB.out⟩
      · go_wp2
        go_roundw
        case measure => simp [intOf]; omega
        case rel =>
          refine ⟨(m - 1) / 26,(65 + UInt8.ofNat ((m - 1) % 26)) :: acc,by omega,by simp; omega,by congr 1; omega,congrArg Value.string (bytes_append [_] acc),?_,HB.out.alloc HB.out.size _⟩
          have:=letter_step n m acc HA.out h0
          rwa [show UInt8.ofNat (65 + (m - 1) % 26) = 65 + UInt8.ofNat ((m - 1) % 26) from by simp] at this
theorem ref_Digits (n : Int) (w : World) (h0 : 0 ≤ n) (h1 : n ≤ 1024) :
    Calls Tryz.prog 106 #[.int .u64 n] w fun e w' => e = .returned (.string ⟨(Lib.decDigits n.toNat).toArray⟩) ∧ Below w.heap.size w w':=by
  obtain ⟨n,rfl⟩:=Int.eq_ofNat_of_zero_le h0
  rw [Int.toNat_natCast]
  have hcv:=fun (W : World) (x : Int) => run_byte1 (P:=Tryz.prog) 95 9 5 Tryz.underlying95 Tryz.underlying5 Tryz.underlying9 W x 5
  go_enter Tryz.func106,Tryz.ntmps106
  go_wp2
  go_loopw [0,3] (fun k s wr => ∃ (m : Nat) (acc : List UInt8),m ≤ n ∧ acc.length + m ≤ 1024 ∧ k = .int .u64 m ∧ s = .string ⟨acc.toArray⟩ ∧ Lib.decDigits n = Lib.decDigits m ++ acc ∧ Below w.heap.size w wr) (fun k _ _ => (intOf k).toNat)
  case atStart => exact ⟨n,[],Nat.le_refl _,by simp; omega,rfl,rfl,by simp,Below.refl _ _⟩
  case round =>
    obtain ⟨m,acc,hm,hl,rfl,rfl,hacc,hb⟩:=hrel
    have HA:=Lib.hid hacc
    have HB:=Lib.hid hb
    clear hacc hb
    by_cases h0 : m ≤ 9
    · go_wp2
      go_ret
      refine ⟨?_,HB.out.alloc HB.out.size _⟩
      have e:=HA.out
      rw [dec_small (show m < 10 from by omega),show UInt8.ofNat (48 + m) = 48 + UInt8.ofNat m from by simp] at e
      rw [e]
      exact congrArg (fun x => Ending.returned (Value.string x)) (bytes_append [_] acc)
    · go_wp2
      go_roundw
      case measure => simp [intOf]; omega
      case rel =>
        refine ⟨m / 10,(48 + UInt8.ofNat (m % 10)) :: acc,by omega,by simp; omega,by congr 1,congrArg Value.string (bytes_append [_] acc),?_,HB.out.alloc HB.out.size _⟩
        rw [HA.out,dec_big (show ¬ m < 10 from by omega),show UInt8.ofNat (48 + m % 10) = 48 + UInt8.ofNat (m % 10) from by simp]; simp
end Go.Proofs.YtmalncmdfmoccaaGreatDoor
