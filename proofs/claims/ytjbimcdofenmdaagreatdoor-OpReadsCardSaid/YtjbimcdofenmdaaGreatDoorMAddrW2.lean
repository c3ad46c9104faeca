/- Contracts of package addr's and its reference's small functions: Less, Index. Contracts of Has, One and Inside, package rect's and the reference's. Contracts of package addr's At and Letters and of their references. The contract of group.Members: the bits of the set, ascending, in new memory. Condition: the library's table of TrailingZeros64. The shelf's contracts, by their other name. Contracts of group.Of and All, and of the reference's User, Bit, Has, Of, All, Meet. Condition: the cells of the slices hold numbers of their types. What the library's functions want of its variables: the table of TrailingZeros64, MaxLen, ErrSyntax, ErrRange; kept by whatever grows. -/
import Derived.Test.YtjbimcdofenmdaaGreatDoorMIter
import Derived.Test.YtjbimcdofenmdaaGreatDoorMKit
import Derived.Test.YtjbimcdofenmdaaGreatDoorMAddrP
import Derived.Test.YtjbimcdofenmdaaGreatDoorMOk
import Derived.Test.YtjbimcdofenmdaaGreatDoorMMem
import Derived.Deep.RegionHeld3
import Derived.Test.YtjbimcdofenmdaaGreatDoorMShelf
import Derived.OpenShut
import Derived.Test.YtjbimcdofenmdaaGreatDoorMTz
import Derived.Stop.LaidErr
import Derived.LaidLaws
namespace Go.Proofs.YtjbimcdofenmdaaGreatDoor
open Go.RowKit
end Go.Proofs.YtjbimcdofenmdaaGreatDoor
namespace Go.Proofs.YtjbimcdofenmdaaGreatDoor
open Go.RowKit
end Go.Proofs.YtjbimcdofenmdaaGreatDoor
namespace Go.Proofs.YtjbimcdofenmdaaGreatDoor
open Go.RowKit
theorem encode_small (n : Nat) (h : n < 128) : Utf8.encode (n : Int) = ⟨#[UInt8.ofNat n]⟩:=by
 have hv : Utf8.valid (n : Int) = true:=by simp [Utf8.valid]; omega
 simp only [Utf8.encode,hv,if_true,Int.toNat_natCast]
 rw [if_pos (by omega)]
theorem bytes_append (x y : List UInt8) : ((⟨x.toArray⟩ : ByteArray) ++ ⟨y.toArray⟩) = ⟨(x ++ y).toArray⟩:=ByteArray.mk_append_mk x y
theorem lettersC_bad (c : Int) (h : ¬ (1 ≤ c ∧ c ≤ 1024)) : lettersC c = ([],3):=by unfold lettersC; rw [if_neg h]
theorem lettersC_good (n : Nat) (h : 1 ≤ (n : Int) ∧ (n : Int) ≤ 1024) : lettersC n = (lettersN n,0):=by unfold lettersC; rw [if_pos h,Int.toNat_natCast]
theorem letter_step (n m : Nat) (acc : List UInt8) (h : lettersN n = lettersN m ++ acc) (h0 : 0 < m) : lettersN n = lettersN ((m - 1) / 26) ++ (UInt8.ofNat (65 + (m - 1) % 26) :: acc):=by
 rw [h,lettersN_pos m h0]; simp
theorem addr_Letters (c : Int) (w : World) (_h0 : -9223372036854775808 ≤ c) (_h1 : c ≤ 9223372036854775807) :
  Calls Tryz.prog 99 #[.int .i64 c] w fun e w' => e = .returned (.tuple #[.string ⟨(lettersC c).1.toArray⟩,.int .i64 (lettersC c).2]) ∧ w = w':=by
 rcases (show c < 1 ∨ (1 ≤ c ∧ 1024 < c) ∨ (1 ≤ c ∧ c ≤ 1024) from by omega) with h | ⟨h0,h⟩ | ⟨h0,h⟩
 ·rw [lettersC_bad c (by omega)]
  go_enter Tryz.func99,Tryz.ntmps99
  go_wp2
  go_ret2
  exact ⟨rfl,rfl⟩
 ·rw [lettersC_bad c (by omega)]
  go_enter Tryz.func99,Tryz.ntmps99
  go_wp2
  go_ret2
  exact ⟨rfl,rfl⟩
 ·obtain ⟨n,rfl⟩:=Int.eq_ofNat_of_zero_le (show 0 ≤ c from by omega)
  rw [lettersC_good n ⟨h0,h⟩]
  go_enter Tryz.func99,Tryz.ntmps99
  go_wp2
  go_loop [0,4] (fun k s => ∃ (m : Nat) (acc : List UInt8),m ≤ n ∧ acc.length + m ≤ 1024 ∧ k = .int .i64 m ∧ s = .string ⟨acc.toArray⟩ ∧ lettersN n = lettersN m ++ acc) (fun k _ => (intOf k).toNat)
  case atStart => exact ⟨n,[],Nat.le_refl _,by simp; omega,rfl,rfl,by simp⟩
  case round =>
   obtain ⟨m,acc,hm,hl,rfl,rfl,hacc⟩:=hrel
   have HA:=Lib.hid hacc
   clear hacc
   rcases Nat.eq_zero_or_pos m with h0 | h0
   ·subst h0
    go_wp2
    go_ret2
    have e:=HA.out
    rw [lettersN_zero,List.nil_append] at e
    rw [e]
    exact ⟨rfl,rfl⟩
   ·have henc : Utf8.encode (65 + ((m : Int) - 1) % 26) = ⟨#[65 + UInt8.ofNat ((m - 1) % 26)]⟩:=by
     rw [show (65 + ((m : Int) - 1) % 26) = ((65 + (m - 1) % 26 : Nat) : Int) from by omega,encode_small _ (by omega)]; simp
    go_wp2
    go_round
    case measure => simp [intOf]; omega
    case rel =>
     refine ⟨(m - 1) / 26,(65 + UInt8.ofNat ((m - 1) % 26)) :: acc,by omega,by simp; omega,by congr 1; omega,congrArg Value.string (bytes_append [_] acc),?_⟩
     have:=letter_step n m acc HA.out h0
     rwa [show UInt8.ofNat (65 + (m - 1) % 26) = 65 + UInt8.ofNat ((m - 1) % 26) from by simp] at this
theorem ref_Letters (c : Int) (w : World) (_h0 : -9223372036854775808 ≤ c) (_h1 : c ≤ 9223372036854775807) :
  Calls Tryz.prog 106 #[.int .i64 c] w fun e w' => e = .returned (.tuple #[.string ⟨(lettersC c).1.toArray⟩,.int .i64 (lettersC c).2]) ∧ Below w.heap.size w w':=by
 rcases (show c < 1 ∨ (1 ≤ c ∧ 1024 < c) ∨ (1 ≤ c ∧ c ≤ 1024) from by omega) with h | ⟨h0,h⟩ | ⟨h0,h⟩
 ·rw [lettersC_bad c (by omega)]
  go_enter Tryz.func106,Tryz.ntmps106
  go_wp2
  go_ret2
  exact ⟨rfl,Below.refl _ _⟩
 ·rw [lettersC_bad c (by omega)]
  go_enter Tryz.func106,Tryz.ntmps106
  go_wp2
  go_ret2
  exact ⟨rfl,Below.refl _ _⟩
 ·obtain ⟨n,rfl⟩:=Int.eq_ofNat_of_zero_le (show 0 ≤ c from by omega)
  rw [lettersC_good n ⟨h0,h⟩]
  have hcv:=fun (W : World) (x : Int) => run_byte1 (P:=Tryz.prog) 69 9 5 Tryz.underlying69 Tryz.underlying5 Tryz.underlying9 W x 5
  go_enter Tryz.func106,Tryz.ntmps106
  go_wp2
  go_loopw [0,4] (fun k s wr => ∃ (m : Nat) (acc : List UInt8),m ≤ n ∧ acc.length + m ≤ 1024 ∧ k = .int .i64 m ∧ s = .string ⟨acc.toArray⟩ ∧ lettersN n = lettersN m ++ acc ∧ Below w.heap.size w wr) (fun k _ _ => (intOf k).toNat)
  case atStart => exact ⟨n,[],Nat.le_refl _,by simp; omega,rfl,rfl,by simp,Below.refl _ _⟩
  case round =>
   obtain ⟨m,acc,hm,hl,rfl,rfl,hacc,hb⟩:=hrel
   have HA:=Lib.hid hacc
   have HB:=Lib.hid hb
   clear hacc hb
   rcases Nat.eq_zero_or_pos m with h0 | h0
   ·subst h0
    go_wp2
    go_ret2
    have e:=HA.out
    rw [lettersN_zero,List.nil_append] at e
    rw [e]
    exact ⟨rfl,HB.out⟩
   ·go_wp2
    go_roundw
    case measure => simp [intOf]; omega
    case rel =>
     refine ⟨(m - 1) / 26,(65 + UInt8.ofNat ((m - 1) % 26)) :: acc,by omega,by simp; omega,by congr 1; omega,congrArg Value.string (bytes_append [_] acc),?_,HB.out.alloc HB.out.size _⟩
     have:=letter_step n m acc HA.out h0
     rwa [show UInt8.ofNat (65 + (m - 1) % 26) = 65 + UInt8.ofNat ((m - 1) % 26) from by simp] at this
theorem ref_Digits (n : Int) (w : World) (h0 : 0 ≤ n) (h1 : n ≤ 1024) :
  Calls Tryz.prog 52 #[.int .u64 n] w fun e w' => e = .returned (.string ⟨(Lib.decDigits n.toNat).toArray⟩) ∧ Below w.heap.size w w':=by
 obtain ⟨n,rfl⟩:=Int.eq_ofNat_of_zero_le h0
 rw [Int.toNat_natCast]
 have hcv:=fun (W : World) (x : Int) => run_byte1 (P:=Tryz.prog) 69 9 5 Tryz.underlying69 Tryz.underlying5 Tryz.underlying9 W x 5
 go_enter Tryz.func52,Tryz.ntmps52
 go_wp2
 go_loopw [0,3] (fun k s wr => ∃ (m : Nat) (acc : List UInt8),m ≤ n ∧ acc.length + m ≤ 1024 ∧ k = .int .u64 m ∧ s = .string ⟨acc.toArray⟩ ∧ Lib.decDigits n = Lib.decDigits m ++ acc ∧ Below w.heap.size w wr) (fun k _ _ => (intOf k).toNat)
 case atStart => exact ⟨n,[],Nat.le_refl _,by simp; omega,rfl,rfl,by simp,Below.refl _ _⟩
 case round =>
  obtain ⟨m,acc,hm,hl,rfl,rfl,hacc,hb⟩:=hrel
  have HA:=Lib.hid hacc
  have HB:=Lib.hid hb
  clear hacc hb
  by_cases h0 : m ≤ 9
  ·go_wp2
   go_ret
   refine ⟨?_,HB.out.alloc HB.out.size _⟩
   have e:=HA.out
   rw [dec_small (show m < 10 from by omega),show UInt8.ofNat (48 + m) = 48 + UInt8.ofNat m from by simp] at e
   rw [e]
   exact congrArg (fun x => Ending.returned (Value.string x)) (bytes_append [_] acc)
  ·go_wp2
   go_roundw
   case measure => simp [intOf]; omega
   case rel =>
    refine ⟨m / 10,(48 + UInt8.ofNat (m % 10)) :: acc,by omega,by simp; omega,by congr 1,congrArg Value.string (bytes_append [_] acc),?_,HB.out.alloc HB.out.size _⟩
    rw [HA.out,dec_big (show ¬ m < 10 from by omega),show UInt8.ofNat (48 + m % 10) = 48 + UInt8.ofNat (m % 10) from by simp]; simp
end Go.Proofs.YtjbimcdofenmdaaGreatDoor
namespace Go.Proofs.YtjbimcdofenmdaaGreatDoor
open Go.RowKit
attribute [local go_sem] Oper.semAt_some
section
variable {w W : World} {o : Nat} {pre : List Int}
end
end Go.Proofs.YtjbimcdofenmdaaGreatDoor

namespace Go.Proofs.YtjbimcdofenmdaaGreatDoor
open Go.RowKit
theorem pow_lt (k : Nat) (h : k < 64) : 2 ^ k < 18446744073709551616:=Nat.pow_lt_pow_right (a:=2) (n:=64) (by omega) h
theorem or_lt {a b : Nat} (h : a < 18446744073709551616) (h2 : b < 18446744073709551616) : a ||| b < 18446744073709551616:=Nat.or_lt_two_pow (n:=64) h h2
theorem wrap_pow (k : Nat) (h : k < 64) : IntKind.u64.wrap ((2 : Int) ^ k) = ((2 ^ k : Nat) : Int):=by
 have hp:=pow_lt k h
 have e : (2 : Int) ^ k = ((2 ^ k : Nat) : Int):=by simp
 rw [e,IntKind.wrap_u64]
 generalize 2 ^ k = x at hp
 omega
theorem or_pow (t k : Nat) (ht : t < 18446744073709551616) (h : k < 64) : bits .or .u64 (t : Int) ((2 : Int) ^ k) = ((t ||| 2 ^ k : Nat) : Int):=by
 rw [show (2 : Int) ^ k = ((2 ^ k : Nat) : Int) from by simp]
 exact u64_or_nat t (2 ^ k) ht (pow_lt k h)
def allR (n : Int) : Nat:=if 0 ≤ n ∧ n ≤ 64 then 2 ^ n.toNat - 1 else 0
def allE (n : Int) : Int:=if 0 ≤ n ∧ n ≤ 64 then 0 else 3
theorem user_any (u : Int) (w : World) : Calls Tryz.prog 83 #[.int .i64 u] w fun e w' => e = .returned (.bool (decide (0 ≤ u ∧ u < 64))) ∧ w = w':=by
 by_cases a : 0 ≤ u <;> by_cases b : u < 64
 all_goals
  go_enter Tryz.func83,Tryz.ntmps83
  go_wp2_with fail
  go_ret
  simp [a,b]
theorem bit_any (u : Int) (w : World) (h0 : 0 ≤ u) (h1 : u < 64) : Calls Tryz.prog 82 #[.int .i64 u] w fun e w' => e = .returned (.int .u64 (2 ^ u.toNat : Nat)) ∧ w = w':=by
 have hw:=wrap_pow u.toNat (by omega)
 have hu : IntKind.u64.wrap u = u:=by rw [IntKind.wrap_u64]; omega
 go_enter Tryz.func82,Tryz.ntmps82
 go_wp2_with fail
 go_ret
 refine ⟨?_,rfl⟩
 simp
theorem and_bit (s k : Nat) : (s &&& 2 ^ k = 0) ↔ s.testBit k = false:=by
 constructor
 ·intro h
  have:=congrArg (fun x => x.testBit k) h
  simpa [Nat.testBit_and] using this
 ·intro h
  apply Nat.eq_of_testBit_eq
  intro i
  by_cases e : k = i
  ·subst e; simp [Nat.testBit_and,h]
  ·simp [Nat.testBit_and,e]
theorem has_and (s k : Nat) (hs : s < 18446744073709551616) (h : k < 64) : (!(bits BinOp.and IntKind.u64 (s : Int) ((2 ^ k : Nat) : Int) == 0)) = s.testBit k:=by
 rw [u64_and_nat s (2 ^ k) hs (pow_lt k h)]
 have hb:=and_bit s k
 generalize s &&& 2 ^ k = x at hb
 cases hc : s.testBit k
 ·simp [hb.2 hc]
 ·have : x ≠ 0:=fun e => by have:=hb.1 e; rw [hc] at this; cases this
  simp
  exact this
theorem ref_has (s : Int) (u : Int) (w : World) (h0 : 0 ≤ s) (h1 : s < 18446744073709551616) :
  Calls Tryz.prog 56 #[.int .u64 s,.int .i64 u] w fun e w' => e = .returned (.bool (hasB s.toNat u)) ∧ w = w':=by
 obtain ⟨s,rfl⟩:=Int.eq_ofNat_of_zero_le h0
 rw [Int.toNat_natCast]
 go_enter Tryz.func56,Tryz.ntmps56
 go_wp2_with fail
 refine (user_any u w).mono ?_
 rintro e w' ⟨rfl,rfl⟩
 by_cases hu : 0 ≤ u ∧ u < 64
 ·have hd : decide (0 ≤ u ∧ u < 64) = true:=by simpa using hu
  rw [hd]
  go_wp2_with fail
  refine (bit_any u w hu.1 hu.2).mono ?_
  rintro e w' ⟨rfl,rfl⟩
  go_wp2_with fail
  go_ret
  refine ⟨?_,rfl⟩
  have ha:=has_and s u.toNat (by omega) (by omega)
  rw [hasB,hd]
  rw [Bool.true_and,← ha]
  rfl
 ·have hd : decide (0 ≤ u ∧ u < 64) = false:=by simpa using hu
  rw [hd]
  go_wp2_with fail
  go_ret
  simp [hasB,hd]
theorem all_step (k : Nat) : (2 ^ k - 1) ||| 2 ^ k = 2 ^ (k + 1) - 1:=by
 apply Nat.eq_of_testBit_eq
 intro i
 simp only [Nat.testBit_or,Nat.testBit_two_pow_sub_one,Nat.testBit_two_pow]
 rw [Bool.eq_iff_iff]
 simp
 omega
theorem all_word_lt (k : Nat) (h : k ≤ 64) : 2 ^ k - 1 < 18446744073709551616:=by
 have : 2 ^ k ≤ 2 ^ 64:=Nat.pow_le_pow_right (by omega) h
 omega
set_option maxRecDepth 100000 in
theorem ref_all (n : Int) (w : World) :
  Calls Tryz.prog 55 #[.int .i64 n] w fun e w' => e = .returned (.tuple #[.int .u64 (allR n : Nat),.int .i64 (allE n)]) ∧ w = w':=by
 by_cases a0 : 0 ≤ n
 ·by_cases a1 : n ≤ 64
  ·go_enter Tryz.func55,Tryz.ntmps55
   go_wp2_with fail
   go_loop [4,5] (fun s i => ∃ k : Nat,k ≤ n ∧ i = .int .i64 k ∧ s = .int .u64 (2 ^ k - 1 : Nat)) (fun _ i => n.toNat - (intOf i).toNat)
   case atStart => exact ⟨0,by omega,rfl,rfl⟩
   case round =>
    obtain ⟨k,hk,rfl,rfl⟩:=hrel
    by_cases hlt : (k : Int) < n
    ·have ho:=u64_or_nat (2 ^ k - 1) (2 ^ k) (all_word_lt k (by omega)) (pow_lt k (by omega))
     rw [all_step] at ho
     go_wp2_with fail
     refine (bit_any _ _ (by omega) (by omega)).mono ?_
     rintro e w' ⟨rfl,rfl⟩
     rw [Int.toNat_natCast]
     go_wp2_with fail
     go_round
     case rel => exact ⟨k + 1,by omega,by go_num,by rw [← ho]; simp⟩
     case measure => simp [intOf]; omega
    ·have hke : n = k:=by omega
     subst hke
     go_wp2_with fail
     refine bodyPost_ret (v:=.tuple #[.int .u64 ((2 ^ k - 1 : Nat) : Int),.int .i64 0]) (by simp [results,Tryz.results55,go_sem]) rfl ⟨?_,rfl⟩
     rw [allR,allE,if_pos (by omega),if_pos (by omega),Int.toNat_natCast]
  ·go_enter Tryz.func55,Tryz.ntmps55
   go_wp2_with fail
   exact bodyPost_ret (v:=.tuple #[.int .u64 0,.int .i64 3]) (by simp [results,Tryz.results55,go_sem]) rfl ⟨by rw [allR,allE,if_neg (by omega),if_neg (by omega)]; rfl,rfl⟩
 ·go_enter Tryz.func55,Tryz.ntmps55
  go_wp2_with fail
  exact bodyPost_ret (v:=.tuple #[.int .u64 0,.int .i64 3]) (by simp [results,Tryz.results55,go_sem]) rfl ⟨by rw [allR,allE,if_neg (by omega),if_neg (by omega)]; rfl,rfl⟩
end Go.Proofs.YtjbimcdofenmdaaGreatDoor
namespace Go.Proofs.YtjbimcdofenmdaaGreatDoor
open Go.RowKit
def Env (w : World) : Prop:=Bru w ∧ (∃ m,w.cell? ⟨2,0,none⟩ = some (.int .i64 m)) ∧ (∃ te pe,w.cell? ⟨5,0,none⟩ = some (.iface te pe)) ∧ ∃ te pe,w.cell? ⟨6,0,none⟩ = some (.iface te pe)
theorem Env.below {w w' : World} (h : Env w) (hb : Below w.heap.size w w') : Env w':=by
 obtain ⟨h1,⟨m,h2⟩,⟨t,p,h3⟩,t',p',h4⟩:=h
 exact ⟨h1.below hb (bru_lt h1),⟨m,cell_step hb h2⟩,⟨t,p,cell_step hb h3⟩,t',p',cell_step hb h4⟩
theorem err_star : "*" ++ "errors.errorString" = "*errors.errorString" := by decide
theorem err_row (u : TypeId) (h : Tryz.prog.typeName? 3 u = some "*errors.errorString") : u = 175 :=
 typeName_ptr_named (nm := "errors.errorString") (by rw [err_star]; kernel_rfl) (by kernel_rfl) (by decide) u (by rw [err_star]; exact h)
theorem err_cells : Tryz.prog.cellsOf 177 = 1:=by kernel_rfl
theorem str_cells : Tryz.prog.cellsOf 9 = 1:=by kernel_rfl
theorem syn_name : Tryz.prog.globalNamed "strconv.ErrSyntax" = some 5 := by kernel_rfl
theorem syn_type : (Tryz.prog.globals[5]?).map (·.type) = some 79:=by kernel_rfl
theorem rng_name : Tryz.prog.globalNamed "strconv.ErrRange" = some 6 := by kernel_rfl
theorem rng_type : (Tryz.prog.globals[6]?).map (·.type) = some 79:=by kernel_rfl
theorem env_of {W : World} {l : List (String × DataW Unit)} (h : laidMetH Tryz.prog l W) (hS : W.ShapedOpen Tryz.prog)
  (hl : l.filter (fun x => x.1 == "math/bits.deBruijn64tab") = [("math/bits.deBruijn64tab", Rows.laid_math_bits_deBruijn64tab)])
  (hs : l.filter (fun x => x.1 == "strconv.ErrSyntax") = [("strconv.ErrSyntax", Rows.laid_strconv_ErrSyntax)])
  (hr : l.filter (fun x => x.1 == "strconv.ErrRange") = [("strconv.ErrRange", Rows.laid_strconv_ErrRange)]) : Env W := by
 have h2 := h.filter (fun x => x.1 == "strconv.ErrSyntax")
 have h3 := h.filter (fun x => x.1 == "strconv.ErrRange")
 rw [hs] at h2
 rw [hr] at h3
 obtain ⟨a1,s1,hv1,_,_,_⟩:=laid_sentinel ((laidMetH_iff ..).1 h2).1 syn_name syn_type Tryz.underlying79 err_row Tryz.underlying175 Tryz.underlying177 rfl rfl Tryz.underlying9 err_cells str_cells
 obtain ⟨a2,s2,hv2,_,_,_⟩:=laid_sentinel ((laidMetH_iff ..).1 h3).1 rng_name rng_type Tryz.underlying79 err_row Tryz.underlying175 Tryz.underlying177 rfl rfl Tryz.underlying9 err_cells str_cells
 refine ⟨bru_of_laid h hl,Tryz.laysM145.s1_3 W hS,⟨_,_,by simpa using World.var?_cell syn_name hv1 0⟩,_,_,by simpa using World.var?_cell rng_name hv2 0⟩
end Go.Proofs.YtjbimcdofenmdaaGreatDoor
