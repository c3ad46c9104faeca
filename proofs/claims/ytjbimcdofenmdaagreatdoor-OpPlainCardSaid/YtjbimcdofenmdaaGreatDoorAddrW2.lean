/- Contracts of package addr's and its reference's small functions: Less, Index. One byte made a string: string([]byte{b}). Contracts of package addr's At and Letters and of their references. -/
import Derived.Test.YtjbimcdofenmdaaGreatDoorOpC
import Derived.Test.YtjbimcdofenmdaaGreatDoorKit
import Derived.Test.YtjbimcdofenmdaaGreatDoorAddrP
import Derived.Test.YtjbimcdofenmdaaGreatDoorValid
namespace Go.Proofs.YtjbimcdofenmdaaGreatDoor
open Go.RowKit
end Go.Proofs.YtjbimcdofenmdaaGreatDoor
namespace Go.Proofs.YtjbimcdofenmdaaGreatDoor
open Go.RowKit
end Go.Proofs.YtjbimcdofenmdaaGreatDoor
namespace Go.Proofs.YtjbimcdofenmdaaGreatDoor
open Go.RowKit
theorem encode_small (n : Nat) (h : n < 128) : Utf8.encode (n : Int) = ⟨#[UInt8.ofNat n]⟩:=by
  have hv : Utf8.valid (n : Int) = true:=by simp [Utf8.valid]; omega
  simp only [Utf8.encode,hv,if_true,Int.toNat_natCast]
  rw [if_pos (by omega)]
theorem bytes_append (x y : List UInt8) : ((⟨x.toArray⟩ : ByteArray) ++ ⟨y.toArray⟩) = ⟨(x ++ y).toArray⟩:=ByteArray.mk_append_mk x y
theorem lettersC_bad (c : Int) (h : ¬ (1 ≤ c ∧ c ≤ 1024)) : lettersC c = ([],3):=by unfold lettersC; rw [if_neg h]
theorem lettersC_good (n : Nat) (h : 1 ≤ (n : Int) ∧ (n : Int) ≤ 1024) : lettersC n = (lettersN n,0):=by unfold lettersC; rw [if_pos h,Int.toNat_natCast]
theorem letter_step (n m : Nat) (acc : List UInt8) (h : lettersN n = lettersN m ++ acc) (h0 : 0 < m) : lettersN n = lettersN ((m - 1) / 26) ++ (UInt8.ofNat (65 + (m - 1) % 26) :: acc):=by
  rw [h,lettersN_pos m h0]; simp
theorem addr_Letters (c : Int) (w : World) (_h0 : -9223372036854775808 ≤ c) (_h1 : c ≤ 9223372036854775807) :
    Calls Tryz.prog 99 #[.int .i64 c] w fun e w' => e = .returned (.tuple #[.string ⟨(lettersC c).1.toArray⟩,.int .i64 (lettersC c).2]) ∧ w = w':=by
  rcases (show c < 1 ∨ (1 ≤ c ∧ 1024 < c) ∨ (1 ≤ c ∧ c ≤ 1024) from by omega) with h | ⟨h0,h⟩ | ⟨h0,h⟩
  · rw [lettersC_bad c (by omega)]
    go_enter Tryz.func99,Tryz.ntmps99
    go_wp2
    go_ret2
    exact ⟨rfl,rfl⟩
  · rw [lettersC_bad c (by omega)]
    go_enter Tryz.func99,Tryz.ntmps99
    go_wp2
    go_ret2
    exact ⟨rfl,rfl⟩
  · obtain ⟨n,rfl⟩:=Int.eq_ofNat_of_zero_le (show 0 ≤ c from by omega)
    rw [lettersC_good n ⟨h0,h⟩]
    go_enter Tryz.func99,Tryz.ntmps99
    go_wp2
    go_loop [0,4] (fun k s => ∃ (m : Nat) (acc : List UInt8),m ≤ n ∧ acc.length + m ≤ 1024 ∧ k = .int .i64 m ∧ s = .string ⟨acc.toArray⟩ ∧ lettersN n = lettersN m ++ acc) (fun k _ => (intOf k).toNat)
    case atStart => exact ⟨n,[],Nat.le_refl _,by simp; omega,rfl,rfl,by simp⟩
    case round =>
      obtain ⟨m,acc,hm,hl,rfl,rfl,hacc⟩:=hrel
      have HA:=Lib.hid hacc
      clear hacc
      rcases Nat.eq_zero_or_pos m with h0 | h0
      · subst h0
        go_wp2
        go_ret2
        have e:=HA.out
        rw [lettersN_zero,List.nil_append] at e
        rw [e]
        exact ⟨rfl,rfl⟩
      · have henc : Utf8.encode (65 + ((m : Int) - 1) % 26) = ⟨#[65 + UInt8.ofNat ((m - 1) % 26)]⟩:=by
          rw [show (65 + ((m : Int) - 1) % 26) = ((65 + (m - 1) % 26 : Nat) : Int) from by omega,encode_small _ (by omega)]; simp
        go_wp2
        go_round
        case measure => simp [intOf]; omega
        case rel =>
          refine ⟨(m - 1) / 26,(65 + UInt8.ofNat ((m - 1) % 26)) :: acc,by omega,by simp; omega,by congr 1; omega,congrArg Value.string (bytes_append [_] acc),?_⟩
          have:=letter_step n m acc HA.out h0
          rwa [show UInt8.ofNat (65 + (m - 1) % 26) = 65 + UInt8.ofNat ((m - 1) % 26) from by simp] at this
end Go.Proofs.YtjbimcdofenmdaaGreatDoor
