/- The contract of the reference's digits. -/
import Derived.Test.YtjjdlhbbkkkjnaaDoorGrpF
namespace Go.Proofs.YtjjdlhbbkkkjnaaDoor
open Go.RowKit

theorem enc_dig (m : Nat) (h : m < 10) : Utf8.encode (48 + (m : Int)) = ⟨#[UInt8.ofNat (48 + m)]⟩ := by
  have key : ∀ m : Fin 10, Utf8.encode (48 + ((m.1 : Nat) : Int)) = ⟨#[UInt8.ofNat (48 + m.1)]⟩ := by decide +kernel
  exact key ⟨m, h⟩
set_option maxRecDepth 100000 in
theorem ref_digits (n : Nat) (h : n < 64) (w : World) : Calls Tryd.prog 31 #[.int .i64 n] w fun e w' => e = .returned (.string ⟨(dig2 n).toArray⟩) ∧ w = w' := by
  by_cases hn : (n : Int) < 10
  · go_enter Tryd.func31, Tryd.ntmps31
    go_wp2_with fail
    go_ret
    refine ⟨?_, rfl⟩
    rw [dig2, if_pos (by omega)]
    show Ending.returned (.string _) = _
    rw [enc_dig n (by omega)]
  · obtain ⟨q, r, hq, hr, e, hn2⟩ : ∃ q r : Nat, q < 10 ∧ r < 10 ∧ n = 10 * q + r ∧ 1 ≤ q := ⟨n / 10, n % 10, by omega, by omega, by omega, by omega⟩
    have h1 : (n : Int).tdiv 10 = (q : Int) := by rw [Int.tdiv_eq_ediv_of_nonneg (by omega)]; omega
    have h2 : (n : Int).tmod 10 = (r : Int) := by rw [Int.tmod_eq_emod_of_nonneg (by omega)]; omega
    have h3 : dig2 n = [UInt8.ofNat (48 + q), UInt8.ofNat (48 + r)] := by rw [dig2, if_neg (by omega), show n / 10 = q from by omega, show n % 10 = r from by omega]
    rw [h3]
    generalize hB : (⟨[UInt8.ofNat (48 + q), UInt8.ofNat (48 + r)].toArray⟩ : ByteArray) = B
    have HB := keep hB
    clear hB
    have E := keep (And.intro (enc_dig q hq) (enc_dig r hr))
    have hx : (n : Int) < 64 := by omega
    have hq' : (q : Int) < 10 := by omega
    have hr' : (r : Int) < 10 := by omega
    have hq0 : 0 ≤ (q : Int) := by omega
    have hr0 : 0 ≤ (r : Int) := by omega
    clear h3 e hn2 hq hr h
    generalize (n : Int) = x at *
    have s1 : (Utf8.encode (48 + (q : Int))).size = 1 := by rw [E.out.1]; rfl
    have s2 : (Utf8.encode (48 + (r : Int))).size = 1 := by rw [E.out.2]; rfl
    generalize (q : Int) = qi at *
    generalize (r : Int) = ri at *
    go_enter Tryd.func31, Tryd.ntmps31
    go_wp2_with fail
    go_ret
    refine ⟨?_, rfl⟩
    show Ending.returned (.string _) = _
    rw [E.out.1, E.out.2, ← HB.out]
    rfl
end Go.Proofs.YtjjdlhbbkkkjnaaDoor
