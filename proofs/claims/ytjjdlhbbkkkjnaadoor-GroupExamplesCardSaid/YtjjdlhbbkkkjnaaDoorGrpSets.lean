/- Contracts of group.Of and All, and of the reference's User, Bit, Has, Of, All, Meet. Condition: the cells of the slices hold numbers of their types. -/
import Derived.Test.YtjjdlhbbkkkjnaaDoorMembers
import Derived.OpenShut
import Derived.Test.YtjjdlhbbkkkjnaaDoorInts
namespace Go.Proofs.YtjjdlhbbkkkjnaaDoor
open Go.RowKit

def ofR (f : Nat → Int) : Nat → Option Nat
  | 0 => some 0
  | k + 1 => match ofR f k with
    | none => none
    | some s => if 0 ≤ f k ∧ f k < 64 then some (s ||| 2 ^ (f k).toNat) else none
def ofE (f : Nat → Int) (n : Nat) : Int := if (ofR f n).isSome then 0 else 3
theorem ofR_none (f : Nat → Int) (k n : Nat) (h : k ≤ n) (e : ofR f k = none) : ofR f n = none := by
  induction n with
  | zero => obtain rfl : k = 0 := by omega
            exact e
  | succ n ih =>
    rcases Nat.lt_or_ge k (n + 1) with h1 | h1
    · rw [ofR, ih (by omega)]
    · obtain rfl : k = n + 1 := by omega
      exact e
theorem pow_lt (k : Nat) (h : k < 64) : 2 ^ k < 18446744073709551616 := Nat.pow_lt_pow_right (a := 2) (n := 64) (by omega) h
theorem or_lt {a b : Nat} (h : a < 18446744073709551616) (h2 : b < 18446744073709551616) : a ||| b < 18446744073709551616 := Nat.or_lt_two_pow (n := 64) h h2
theorem ofR_lt (f : Nat → Int) (n s : Nat) (e : ofR f n = some s) : s < 18446744073709551616 := by
  induction n generalizing s with
  | zero => obtain rfl : 0 = s := by simpa [ofR] using e
            decide
  | succ n ih =>
    rw [ofR] at e
    cases h : ofR f n with
    | none => rw [h] at e; cases e
    | some t =>
      simp only [h] at e
      by_cases c : 0 ≤ f n ∧ f n < 64
      · rw [if_pos c] at e
        obtain rfl := Option.some.inj e
        exact or_lt (ih _ h) (pow_lt _ (by omega))
      · rw [if_neg c] at e; cases e

theorem wrap_pow (k : Nat) (h : k < 64) : IntKind.u64.wrap ((2 : Int) ^ k) = ((2 ^ k : Nat) : Int) := by
  have hp := pow_lt k h
  have e : (2 : Int) ^ k = ((2 ^ k : Nat) : Int) := by simp
  rw [e, IntKind.wrap_u64]
  generalize 2 ^ k = x at hp
  omega
theorem or_pow (t k : Nat) (ht : t < 18446744073709551616) (h : k < 64) : bits .or .u64 (t : Int) ((2 : Int) ^ k) = ((t ||| 2 ^ k : Nat) : Int) := by
  rw [show (2 : Int) ^ k = ((2 ^ k : Nat) : Int) from by simp]
  exact u64_or_nat t (2 ^ k) ht (pow_lt k h)
theorem of_any (a : Option Addr) (n c : Nat) (f : Nat → Int) (B : Nat) (w : World) (hn : n ≤ maxLen) (hr : IsInts .i64 w B a n f) :
    Calls Tryd.prog 11 #[.slice a n c] w fun e w' => e = .returned (.tuple #[.int .u64 ((ofR f n).getD 0 : Nat), .int .i64 (ofE f n)]) ∧ w = w' := by
  unfold maxLen at hn
  go_enter Tryd.func11, Tryd.ntmps11
  go_wp2_with fail
  go_loop [4, 9] (fun s i => ∃ k : Nat, k ≤ n ∧ i = .int .i64 k ∧ ∃ t, ofR f k = some t ∧ s = .int .u64 (t : Nat)) (fun _ i => n - (intOf i).toNat)
  case atStart => exact ⟨0, Nat.zero_le _, rfl, 0, rfl, rfl⟩
  case round =>
    obtain ⟨k, hk, rfl, t, ht, rfl⟩ := hrel
    by_cases hlt : k < n
    · obtain ⟨ad, rfl, _, hc⟩ := hr (by omega)
      have hck := hc k hlt
      clear hc
      by_cases a0 : 0 ≤ f k
      · by_cases a1 : f k < 64
        · have hw := wrap_pow (f k).toNat (by omega)
          have ho := or_pow t (f k).toNat (ofR_lt f k t ht) (by omega)
          go_wp2
          go_round
          case rel =>
            refine ⟨k + 1, by omega, by go_num, t ||| 2 ^ (f k).toNat, by rw [ofR, ht]; simp [a0, a1], ?_⟩
            simp
          case measure => simp [intOf]; omega
        · go_wp2
          have hx := ofR_none f (k + 1) n (by omega) (by rw [ofR, ht]; simp; omega)
          refine bodyPost_ret (v := .tuple #[.int .u64 0, .int .i64 3]) (by simp [results, Tryd.results11, go_sem]) rfl ⟨?_, rfl⟩
          simp [ofE, hx]
      · go_wp2
        have hx := ofR_none f (k + 1) n (by omega) (by rw [ofR, ht]; simp; omega)
        refine bodyPost_ret (v := .tuple #[.int .u64 0, .int .i64 3]) (by simp [results, Tryd.results11, go_sem]) rfl ⟨?_, rfl⟩
        simp [ofE, hx]
    · have hke : k = n := by omega
      subst hke
      go_wp2
      refine bodyPost_ret (v := .tuple #[.int .u64 (t : Nat), .int .i64 0]) (by simp [results, Tryd.results11, go_sem]) rfl ⟨?_, rfl⟩
      simp [ofE, ht]

def allR (n : Int) : Nat := if 0 ≤ n ∧ n ≤ 64 then 2 ^ n.toNat - 1 else 0
def allE (n : Int) : Int := if 0 ≤ n ∧ n ≤ 64 then 0 else 3
theorem all_word (n : Int) (h0 : 0 ≤ n) (h1 : n ≤ 64) : IntKind.u64.wrap (IntKind.u64.wrap ((2 : Int) ^ n.toNat) - 1) = ((2 ^ n.toNat - 1 : Nat) : Int) := by
  generalize hk : n.toNat = k
  rcases Nat.lt_or_ge k 64 with h | h
  · have hp := pow_lt k h
    have hq := Nat.two_pow_pos k
    rw [wrap_pow k h, IntKind.wrap_u64]
    generalize 2 ^ k = x at hp hq
    omega
  · obtain rfl : k = 64 := by omega
    decide
theorem all_any (n : Int) (w : World) :
    Calls Tryd.prog 13 #[.int .i64 n] w fun e w' => e = .returned (.tuple #[.int .u64 (allR n : Nat), .int .i64 (allE n)]) ∧ w = w' := by
  by_cases a0 : 0 ≤ n
  · by_cases a1 : n ≤ 64
    · have hw := all_word n a0 a1
      go_enter Tryd.func13, Tryd.ntmps13
      go_wp2_with fail
      refine bodyPost_ret (v := .tuple #[.int .u64 ((2 ^ n.toNat - 1 : Nat) : Int), .int .i64 0]) ?_ rfl ⟨by simp [allR, allE, a0, a1], rfl⟩
      rw [← hw]
      simp [results, Tryd.results13, go_sem]
    · go_enter Tryd.func13, Tryd.ntmps13
      go_wp2_with fail
      exact bodyPost_ret (v := .tuple #[.int .u64 0, .int .i64 3]) (by simp [results, Tryd.results13, go_sem]) rfl ⟨by rw [allR, allE, if_neg (by omega), if_neg (by omega)]; rfl, rfl⟩
  · go_enter Tryd.func13, Tryd.ntmps13
    go_wp2_with fail
    exact bodyPost_ret (v := .tuple #[.int .u64 0, .int .i64 3]) (by simp [results, Tryd.results13, go_sem]) rfl ⟨by rw [allR, allE, if_neg (by omega), if_neg (by omega)]; rfl, rfl⟩

theorem user_any (u : Int) (w : World) : Calls Tryd.prog 24 #[.int .i64 u] w fun e w' => e = .returned (.bool (decide (0 ≤ u ∧ u < 64))) ∧ w = w' := by
  by_cases a : 0 ≤ u <;> by_cases b : u < 64
  all_goals
    go_enter Tryd.func24, Tryd.ntmps24
    go_wp2_with fail
    go_ret
    simp [a, b]
theorem bit_any (u : Int) (w : World) (h0 : 0 ≤ u) (h1 : u < 64) : Calls Tryd.prog 25 #[.int .i64 u] w fun e w' => e = .returned (.int .u64 (2 ^ u.toNat : Nat)) ∧ w = w' := by
  have hw := wrap_pow u.toNat (by omega)
  have hu : IntKind.u64.wrap u = u := by rw [IntKind.wrap_u64]; omega
  go_enter Tryd.func25, Tryd.ntmps25
  go_wp2_with fail
  go_ret
  refine ⟨?_, rfl⟩
  simp
theorem and_bit (s k : Nat) : (s &&& 2 ^ k = 0) ↔ s.testBit k = false := by
  constructor
  · intro h
    have := congrArg (fun x => x.testBit k) h
    simpa [Nat.testBit_and] using this
  · intro h
    apply Nat.eq_of_testBit_eq
    intro i
    by_cases e : k = i
    · subst e; simp [Nat.testBit_and, h]
    · simp [Nat.testBit_and, e]
theorem has_and (s k : Nat) (hs : s < 18446744073709551616) (h : k < 64) : (!(bits BinOp.and IntKind.u64 (s : Int) ((2 ^ k : Nat) : Int) == 0)) = s.testBit k := by
  rw [u64_and_nat s (2 ^ k) hs (pow_lt k h)]
  have hb := and_bit s k
  generalize s &&& 2 ^ k = x at hb
  cases hc : s.testBit k
  · simp [hb.2 hc]
  · have : x ≠ 0 := fun e => by have := hb.1 e; rw [hc] at this; cases this
    simp
    exact this
theorem ref_has (s : Int) (u : Int) (w : World) (h0 : 0 ≤ s) (h1 : s < 18446744073709551616) :
    Calls Tryd.prog 18 #[.int .u64 s, .int .i64 u] w fun e w' => e = .returned (.bool (hasB s.toNat u)) ∧ w = w' := by
  obtain ⟨s, rfl⟩ := Int.eq_ofNat_of_zero_le h0
  rw [Int.toNat_natCast]
  go_enter Tryd.func18, Tryd.ntmps18
  go_wp2_with fail
  refine (user_any u w).mono ?_
  rintro e w' ⟨rfl, rfl⟩
  by_cases hu : 0 ≤ u ∧ u < 64
  · have hd : decide (0 ≤ u ∧ u < 64) = true := by simpa using hu
    rw [hd]
    go_wp2_with fail
    refine (bit_any u w hu.1 hu.2).mono ?_
    rintro e w' ⟨rfl, rfl⟩
    go_wp2_with fail
    go_ret
    refine ⟨?_, rfl⟩
    have ha := has_and s u.toNat (by omega) (by omega)
    rw [hasB, hd]
    rw [Bool.true_and, ← ha]
    rfl
  · have hd : decide (0 ≤ u ∧ u < 64) = false := by simpa using hu
    rw [hd]
    go_wp2_with fail
    go_ret
    simp [hasB, hd]

set_option maxRecDepth 100000 in
theorem ref_of (a : Option Addr) (n c : Nat) (f : Nat → Int) (B : Nat) (w : World) (hn : n ≤ maxLen) (hr : IsInts .i64 w B a n f) :
    Calls Tryd.prog 12 #[.slice a n c] w fun e w' => e = .returned (.tuple #[.int .u64 ((ofR f n).getD 0 : Nat), .int .i64 (ofE f n)]) ∧ w = w' := by
  unfold maxLen at hn
  go_enter Tryd.func12, Tryd.ntmps12
  go_wp2_with fail
  go_loop [4, 5] (fun s i => ∃ k : Nat, k ≤ n ∧ i = .int .i64 k ∧ ∃ t, ofR f k = some t ∧ s = .int .u64 (t : Nat)) (fun _ i => n - (intOf i).toNat)
  case atStart => exact ⟨0, Nat.zero_le _, rfl, 0, rfl, rfl⟩
  case round =>
    obtain ⟨k, hk, rfl, t, ht, rfl⟩ := hrel
    by_cases hlt : k < n
    · obtain ⟨ad, rfl, _, hc⟩ := hr (by omega)
      have hck := hc k hlt
      clear hc
      go_wp2_with fail
      refine (user_any _ _).mono ?_
      rintro e w' ⟨rfl, rfl⟩
      by_cases hu : 0 ≤ f k ∧ f k < 64
      · have hd : decide (0 ≤ f k ∧ f k < 64) = true := by simpa using hu
        have ho := u64_or_nat t _ (ofR_lt f k t ht) (pow_lt (f k).toNat (by omega))
        rw [hd]
        go_wp2_with fail
        refine (bit_any _ _ hu.1 hu.2).mono ?_
        rintro e w' ⟨rfl, rfl⟩
        go_wp2_with fail
        go_round
        case rel => exact ⟨k + 1, by omega, by go_num, t ||| 2 ^ (f k).toNat, by rw [ofR, ht]; simp [hu.1, hu.2], by rw [← ho]; simp⟩
        case measure => simp [intOf]; omega
      · have hd : decide (0 ≤ f k ∧ f k < 64) = false := by simpa using hu
        rw [hd]
        go_wp2_with fail
        have hx := ofR_none f (k + 1) n (by omega) (by rw [ofR, ht]; simp; omega)
        refine bodyPost_ret (v := .tuple #[.int .u64 0, .int .i64 3]) (by simp [results, Tryd.results12, go_sem]) rfl ⟨?_, rfl⟩
        simp [ofE, hx]
    · have hke : k = n := by omega
      subst hke
      go_wp2_with fail
      refine bodyPost_ret (v := .tuple #[.int .u64 (t : Nat), .int .i64 0]) (by simp [results, Tryd.results12, go_sem]) rfl ⟨?_, rfl⟩
      simp [ofE, ht]

theorem all_step (k : Nat) : (2 ^ k - 1) ||| 2 ^ k = 2 ^ (k + 1) - 1 := by
  apply Nat.eq_of_testBit_eq
  intro i
  simp only [Nat.testBit_or, Nat.testBit_two_pow_sub_one, Nat.testBit_two_pow]
  rw [Bool.eq_iff_iff]
  simp
  omega
theorem all_word_lt (k : Nat) (h : k ≤ 64) : 2 ^ k - 1 < 18446744073709551616 := by
  have : 2 ^ k ≤ 2 ^ 64 := Nat.pow_le_pow_right (by omega) h
  omega
set_option maxRecDepth 100000 in
theorem ref_all (n : Int) (w : World) :
    Calls Tryd.prog 14 #[.int .i64 n] w fun e w' => e = .returned (.tuple #[.int .u64 (allR n : Nat), .int .i64 (allE n)]) ∧ w = w' := by
  by_cases a0 : 0 ≤ n
  · by_cases a1 : n ≤ 64
    · go_enter Tryd.func14, Tryd.ntmps14
      go_wp2_with fail
      go_loop [4, 5] (fun s i => ∃ k : Nat, k ≤ n ∧ i = .int .i64 k ∧ s = .int .u64 (2 ^ k - 1 : Nat)) (fun _ i => n.toNat - (intOf i).toNat)
      case atStart => exact ⟨0, by omega, rfl, rfl⟩
      case round =>
        obtain ⟨k, hk, rfl, rfl⟩ := hrel
        by_cases hlt : (k : Int) < n
        · have ho := u64_or_nat (2 ^ k - 1) (2 ^ k) (all_word_lt k (by omega)) (pow_lt k (by omega))
          rw [all_step] at ho
          go_wp2_with fail
          refine (bit_any _ _ (by omega) (by omega)).mono ?_
          rintro e w' ⟨rfl, rfl⟩
          rw [Int.toNat_natCast]
          go_wp2_with fail
          go_round
          case rel => exact ⟨k + 1, by omega, by go_num, by rw [← ho]; simp⟩
          case measure => simp [intOf]; omega
        · have hke : n = k := by omega
          subst hke
          go_wp2_with fail
          refine bodyPost_ret (v := .tuple #[.int .u64 ((2 ^ k - 1 : Nat) : Int), .int .i64 0]) (by simp [results, Tryd.results14, go_sem]) rfl ⟨?_, rfl⟩
          rw [allR, allE, if_pos (by omega), if_pos (by omega), Int.toNat_natCast]
    · go_enter Tryd.func14, Tryd.ntmps14
      go_wp2_with fail
      exact bodyPost_ret (v := .tuple #[.int .u64 0, .int .i64 3]) (by simp [results, Tryd.results14, go_sem]) rfl ⟨by rw [allR, allE, if_neg (by omega), if_neg (by omega)]; rfl, rfl⟩
  · go_enter Tryd.func14, Tryd.ntmps14
    go_wp2_with fail
    exact bodyPost_ret (v := .tuple #[.int .u64 0, .int .i64 3]) (by simp [results, Tryd.results14, go_sem]) rfl ⟨by rw [allR, allE, if_neg (by omega), if_neg (by omega)]; rfl, rfl⟩

set_option maxRecDepth 100000 in
theorem ref_meet (a : Option Addr) (n c : Nat) (f : Nat → Nat) (B : Nat) (w : World) (hn : n ≤ maxLen) (hr : IsNums .u64 w B a n f) (hz : ∀ i, f i < 18446744073709551616) :
    Calls Tryd.prog 16 #[.slice a n c] w fun e w' => e = .returned (.int .u64 (meetF f n : Nat)) ∧ w = w' := by
  unfold maxLen at hn
  go_enter Tryd.func16, Tryd.ntmps16
  go_wp2_with fail
  refine (ref_all _ _).mono ?_
  rintro e w' ⟨rfl, rfl⟩
  rw [show allR 64 = 18446744073709551615 from by decide, show allE 64 = 0 from by decide]
  go_wp2_with fail
  go_loop [3, 5] (fun s i => ∃ k : Nat, k ≤ n ∧ i = .int .i64 k ∧ s = .int .u64 (meetF f k : Nat)) (fun _ i => n - (intOf i).toNat)
  case atStart => exact ⟨0, Nat.zero_le _, rfl, rfl⟩
  case round =>
    obtain ⟨k, hk, rfl, rfl⟩ := hrel
    by_cases hlt : k < n
    · obtain ⟨ad, rfl, _, hc⟩ := hr (by omega)
      have hck := hc k hlt
      clear hc
      go_wp2_with fail
      go_round
      case rel =>
        refine ⟨k + 1, by omega, by go_num, ?_⟩
        rw [u64_and_nat _ _ (meetF_lt f k) (hz k)]; rfl
      case measure => simp [intOf]; omega
    · go_wp2_with fail
      go_ret
      have : k = n := by omega
      subst this
      exact ⟨rfl, rfl⟩

theorem bits_snoc1 (s k : Nat) (hb : s.testBit k = true) : bitsN s (k + 1) = bitsN s k ++ [(k : Int)] := by simp [bitsN, hb]
theorem bits_snoc0 (s k : Nat) (hb : s.testBit k = false) : bitsN s (k + 1) = bitsN s k := by simp [bitsN, hb]
set_option maxRecDepth 100000 in
set_option maxHeartbeats 4000000 in
theorem ref_members (s : Nat) (w : World) (hs : s < 18446744073709551616) :
    Calls Tryd.prog 17 #[.int .u64 s] w fun e w' => ∃ v, e = .returned v ∧ w'.ownsRow w.heap.size 3 1 v (bitsL s).length (intsV (bitsL s)) ∧ Below w.heap.size w w' := by
  obtain ⟨i0, hi, hz0, hz1, hz2⟩ := info_parts info_int
  go_enter Tryd.func17, Tryd.ntmps17
  go_wp2_with fail
  go_loopw [3, 4] (fun ov iv wr => ∃ (k : Nat) (l : List Int), k ≤ 64 ∧ iv = .int .i64 k ∧ bitsN s k = l ∧ Hid (OkRow w [] 3 1 ov l.length (intsV l) wr)) (fun _ iv _ => 64 - (intOf iv).toNat)
  case atStart => exact ⟨0, [], by omega, rfl, rfl, Lib.hid (OkRow.start (Ok.start w) _ _)⟩
  case round =>
    obtain ⟨k, l, hk, rfl, hl, H⟩ := hrel
    have hll : l.length ≤ k := by rw [← hl]; exact bitsN_len s k
    have HL := keep hl
    clear hl
    by_cases hlt : (k : Int) < 64
    · go_wp2_with fail
      refine (ref_has s k wr (by omega) (by omega)).mono ?_
      rintro e w' ⟨rfl, rfl⟩
      have hh : hasB s k = s.testBit k := by simp [hasB]; intro; omega
      rw [Int.toNat_natCast, hh]
      clear hh
      cases hb : s.testBit k
      · have HB := keep (bits_snoc0 s k hb)
        clear hb
        go_wp2_with fail
        go_roundw
        case rel => exact ⟨k + 1, l, by omega, by go_num, by rw [HB.out, HL.out], H⟩
        case measure => simp [intOf]; omega
      · have HB := keep (bits_snoc1 s k hb)
        clear hb
        go_wp2_with (at_builtin; refine wpList_append_lies _ rfl _ _ _ rfl w.heap.size 3 i0 _ 1 8 Tryd.underlying23 hi hz0 hz1 hz2 rfl (by omega) _ _ _ rfl (H.out.own.alloc _) ⟨wr.heap.size, 0, none⟩ 1 1 [.int .i64 k] rfl rfl (World.news_of_block (cs := #[.int .i64 k]) (t := 3) (fr := (0, 0)) (heap_alloc_new _ _)) (by intro u hu; simp at hu; rcases hu with rfl; rfl) (by omega) (by unfold maxLen; omega) (by omega) (by have := H.out.ok.bel.size; simp; omega) _ rfl ?_; intro g cap w3 hown3 hgrow3 hat3 hlt3)
        go_roundw
        case rel => exact ⟨k + 1, l ++ [(k : Int)], by omega, by go_num, by rw [HB.out, HL.out], by rw [intsV_snoc, List.length_append]; exact (H.out.alloc_obj _).appended hown3 hgrow3 hat3⟩
        case measure => simp [intOf]; omega
    · have hke : k = 64 := by omega
      subst hke
      go_wp2_with fail
      go_ret
      have e : bitsL s = l := HL.out
      rw [e]
      exact ⟨_, rfl, H.out.own, H.out.ok.bel⟩
end Go.Proofs.YtjjdlhbbkkkjnaaDoor
