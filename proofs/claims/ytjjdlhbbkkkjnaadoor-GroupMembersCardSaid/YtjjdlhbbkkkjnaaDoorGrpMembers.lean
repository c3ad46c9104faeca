/- The walk of the law GroupMembers. -/
import Derived.Test.YtjjdlhbbkkkjnaaDoorEqI
import Derived.Test.YtjjdlhbbkkkjnaaDoorMembers
import Derived.OpenShut
namespace Go.Proofs.YtjjdlhbbkkkjnaaDoor
open Go.RowKit

theorem bitsN_le (s m n : Nat) (h : m ≤ n) : ∃ r, bitsN s n = bitsN s m ++ r := by
  induction n with
  | zero => obtain rfl : m = 0 := by omega
            exact ⟨[], by simp⟩
  | succ n ih =>
    rcases Nat.lt_or_ge m (n + 1) with h1 | h1
    · obtain ⟨r, hr⟩ := ih (by omega)
      exact ⟨r ++ (if s.testBit n then [(n : Int)] else []), by rw [bitsN, hr, List.append_assoc]⟩
    · obtain rfl : m = n + 1 := by omega
      exact ⟨[], by simp⟩
theorem bits_at (s k : Nat) (hk : k < 64) (hb : s.testBit k = true) : (bitsN s k).length < (bitsL s).length ∧ (bitsL s).getD (bitsN s k).length 0 = k := by
  obtain ⟨r, hr⟩ := bitsN_le s (k + 1) 64 (by omega)
  have e : bitsL s = bitsN s k ++ ((k : Int) :: r) := by
    show bitsN s 64 = _
    rw [hr, bitsN, hb]
    simp
  rw [e]
  simp [List.getD_eq_getElem?_getD]
theorem bits_on (s k : Nat) (hb : s.testBit k = true) : (bitsN s (k + 1)).length = (bitsN s k).length + 1 := by simp [bitsN, hb]
theorem bits_off (s k : Nat) (hb : s.testBit k = false) : bitsN s (k + 1) = bitsN s k := by simp [bitsN, hb]
theorem high_bit (s k : Nat) (hs : s < 18446744073709551616) (hk : 64 ≤ k) : s.testBit k = false := Nat.testBit_lt_two_pow (Nat.lt_of_lt_of_le hs (show 2 ^ 64 ≤ 2 ^ k from Nat.pow_le_pow_right (by omega) hk))
theorem bits_64 (s : Nat) : bitsN s 64 = bitsL s := rfl
theorem bits_high (s : Nat) (hs : s < 18446744073709551616) : bitsN s 65 = bitsL s ∧ bitsN s 66 = bitsL s := by
  have h1 := bits_off s 64 (high_bit s 64 hs (by omega))
  have h2 := bits_off s 65 (high_bit s 65 hs (by omega))
  exact ⟨h1, h2.trans h1⟩
theorem wrap_small (y : Int) (h0 : 0 ≤ y) (h1 : y < 64) : IntKind.u64.wrap y = y := by rw [IntKind.wrap_u64]; omega
theorem bit_word (s k : Nat) : (((s : Int) / 2 ^ k).tmod 2 == 1) = s.testBit k := by
  rw [Int.tmod_eq_emod_of_nonneg (Int.ediv_nonneg (by omega) (Int.pow_nonneg (by omega)))]
  rw [Nat.testBit_eq_decide_div_mod_eq, show ((s : Int) / 2 ^ k) = ((s / 2 ^ k : Nat) : Int) from by simp]
  rw [Bool.eq_iff_iff, beq_iff_eq, decide_eq_true_eq]
  omega
theorem bitsN_zero (s : Nat) : bitsN s 0 = [] := rfl
theorem bitsL_len (s : Nat) : (bitsL s).length ≤ 64 := bitsN_len s 64
theorem bits_ten : bitsL 10 = [1, 3] := by decide +kernel
attribute [local irreducible] bitsL bitsN

set_option maxRecDepth 100000 in
set_option maxHeartbeats 8000000 in
theorem GroupMembers_walk (s : Int) (w : World) (hs : (Lit.int .u64 s).wf = true)
    (hL : laidMetH Tryd.prog Rows.groupMembersRow.laid w) (_ : w.ShapedOpen Tryd.prog) :
    Calls Tryd.prog 3 #[.int .u64 s] w fun e w' => e = .returned (.bool true) ∧ Below w.heap.size w w' := by
  have hT := bru_of_laid hL (by kernel_rfl)
  have hb := bounds_u64 hs
  obtain ⟨s, rfl⟩ := Int.eq_ofNat_of_zero_le hb.1
  have hsz : s < 18446744073709551616 := by omega
  have HT := Lib.hid hT
  have HSZ := keep hsz
  have hTl := bru_lt hT
  clear hL hT hsz hb hs
  have H1 := Lib.hid (Ok.start w)
  go_enter Tryd.func3, Tryd.ntmps3
  go_wp2_with fail
  refine (group_Members s _ HSZ.out (HT.out.below H1.out.bel hTl)).mono ?_
  rintro e w2 ⟨v, rfl, hown, hb⟩
  obtain ⟨ad1, cp1, rfl, hr, hln1⟩ := own_intsL hown
  have H3 := Lib.hid ((H1.out.below hb).add (kInts .i64 w2.heap.size ad1 (bitsL s).length (fun i => (bitsL s).getD i 0)) ⟨hr, Nat.le_refl _⟩)
  clear hown hr hb H1
  have hlen := bitsL_len s
  have HLEN := keep hlen
  clear hlen hln1
  go_wp2_with fail
  go_loopw [4, 5] (fun nv uv wr => ∃ j : Nat, j ≤ 68 ∧ uv = .int .i64 ((j : Int) - 2) ∧ nv = .int .i64 ((bitsN s (j - 2)).length : Nat) ∧ Hid (Ok w [kInts .i64 w2.heap.size ad1 (bitsL s).length (fun i => (bitsL s).getD i 0)] wr)) (fun _ uv _ => (66 - intOf uv).toNat)
  case atStart => exact ⟨0, by omega, rfl, by simp [bitsN_zero], H3⟩
  case round =>
    obtain ⟨j, hj, rfl, rfl, H⟩ := hrel
    rcases (show j = 0 ∨ j = 1 ∨ (∃ k, j = k + 2 ∧ k < 64) ∨ j = 66 ∨ j = 67 ∨ j = 68 from by rcases Nat.lt_or_ge j 2 with h | h; omega; rcases Nat.lt_or_ge j 66 with h2 | h2; exact .inr (.inr (.inl ⟨j - 2, by omega, by omega⟩)); omega) with rfl | rfl | ⟨k, rfl, hk⟩ | rfl | rfl | rfl
    · clear hj
      rw [show (((0 : Nat) : Int) - 2) = -2 from rfl, show (bitsN s (0 - 2)).length = 0 from by simp [bitsN_zero]]
      go_wp2_with fail
      refine (has_any _ _ _ (by omega) (by have := HSZ.out; omega)).mono ?_
      rintro e w2 ⟨rfl, rfl⟩
      rw [Int.toNat_natCast, show hasB s (-2) = false from by unfold hasB; simp]
      go_wp2_with fail
      go_roundw
      case rel => exact ⟨1, by omega, by go_num, by simp [bitsN_zero], H⟩
      case measure => simp [intOf]
    · clear hj
      rw [show (((1 : Nat) : Int) - 2) = -1 from rfl, show (bitsN s (1 - 2)).length = 0 from by simp [bitsN_zero]]
      go_wp2_with fail
      refine (has_any _ _ _ (by omega) (by have := HSZ.out; omega)).mono ?_
      rintro e w2 ⟨rfl, rfl⟩
      rw [Int.toNat_natCast, show hasB s (-1) = false from by unfold hasB; simp]
      go_wp2_with fail
      go_roundw
      case rel => exact ⟨2, by omega, by go_num, by simp [bitsN_zero], H⟩
      case measure => simp [intOf]
    · rw [show k + 2 - 2 = k from rfl]
      obtain ⟨y, hy⟩ : ∃ y : Int, ((k + 2 : Nat) : Int) - 2 = y := ⟨_, rfl⟩
      rw [hy]
      have hy0 : 0 ≤ y := by omega
      have hy1 : y < 64 := by omega
      have hyk : y.toNat = k := by omega
      have hyc : (k : Int) = y := by omega
      have hw := bit_word s k
      rw [← hyk] at hw
      have hwr := wrap_small y hy0 hy1
      have HY := keep hy
      have HYK := keep hyk
      have HYC := keep hyc
      have HKK := keep hk
      clear hy hyk hj
      cases hb : s.testBit k
      · rw [HYK.out, hb, ← HYK.out] at hw
        have HB := keep hb
        clear hb hk hyc
        generalize hq : (bitsN s k).length = q
        have HQ := keep hq
        clear hq
        go_wp2_with fail
        refine (has_any _ _ _ (by omega) (by have := HSZ.out; omega)).mono ?_
        rintro e w2 ⟨rfl, rfl⟩
        rw [Int.toNat_natCast, show hasB s y = false from by unfold hasB; rw [HYK.out, HB.out]; simp]
        go_wp2_with fail
        go_roundw
        case rel => exact ⟨k + 3, by have := HKK.out; omega, by rw [← HY.out]; go_num, by rw [show k + 3 - 2 = k + 1 from rfl, bits_off s k HB.out, HQ.out], H⟩
        case measure => simp [intOf]; omega
      · rw [HYK.out, hb, ← HYK.out] at hw
        obtain ⟨hl1, hl2⟩ := bits_at s k hk hb
        have HB := keep hb
        clear hb
        obtain ⟨b, o, rfl, hc⟩ := ints_cells (H.out.get _ (List.mem_cons_self ..)) (bitsN s k).length hl1
        rw [hl2, hyc] at hc
        have H1 := Lib.hid (H.out.add _ hc)
        have HON := keep (bits_on s k HB.out)
        clear hc hl2 hk hyc
        have hl3 := HLEN.out
        generalize (bitsN s k).length = q at hl1 HON H1 ⊢
        have hq : (q : Int) < ((bitsL s).length : Int) := by omega
        have F4 := H1.out.sees
        simp only [sees, kCells, cellsFrom, Nat.add_zero] at F4
        obtain ⟨⟨z0, c0_0, -⟩, -, -⟩ := F4
        go_wp2_with fail
        refine (has_any _ _ _ (by omega) (by have := HSZ.out; omega)).mono ?_
        rintro e w2 ⟨rfl, rfl⟩
        rw [Int.toNat_natCast, show hasB s y = true from by unfold hasB; rw [HYK.out, HB.out]; simp; omega]
        go_wp2_with fail
        go_roundw
        case rel => exact ⟨k + 3, by have := HKK.out; omega, by rw [← HY.out]; go_num, by rw [show k + 3 - 2 = k + 1 from rfl, HON.out]; go_num, H1.out.tail⟩
        case measure => simp [intOf]; omega
    · rw [show (((66 : Nat) : Int) - 2) = 64 from rfl]
      generalize hq : (bitsN s (66 - 2)).length = q
      have HQ := keep hq
      clear hq hj
      go_wp2_with fail
      refine (has_any _ _ _ (by omega) (by have := HSZ.out; omega)).mono ?_
      rintro e w2 ⟨rfl, rfl⟩
      rw [Int.toNat_natCast, show hasB s 64 = false from by unfold hasB; simp]
      go_wp2_with fail
      go_roundw
      case rel => exact ⟨67, by omega, by go_num, by rw [← HQ.out]; rw [show 67 - 2 = 65 from rfl, (bits_high s HSZ.out).1, show 66 - 2 = 64 from rfl, bits_64], H⟩
      case measure => simp [intOf]
    · rw [show (((67 : Nat) : Int) - 2) = 65 from rfl]
      generalize hq : (bitsN s (67 - 2)).length = q
      have HQ := keep hq
      clear hq hj
      go_wp2_with fail
      refine (has_any _ _ _ (by omega) (by have := HSZ.out; omega)).mono ?_
      rintro e w2 ⟨rfl, rfl⟩
      rw [Int.toNat_natCast, show hasB s 65 = false from by unfold hasB; simp]
      go_wp2_with fail
      go_roundw
      case rel => exact ⟨68, by omega, by go_num, by rw [← HQ.out]; rw [show 68 - 2 = 66 from rfl, (bits_high s HSZ.out).2, show 67 - 2 = 65 from rfl, (bits_high s HSZ.out).1], H⟩
      case measure => simp [intOf]
    · rw [show (((68 : Nat) : Int) - 2) = 66 from rfl, show 68 - 2 = 66 from rfl, (bits_high s HSZ.out).2]
      go_wp2_with fail
      refine (group_Members 10 _ (by decide) (HT.out.below H.out.bel hTl)).mono ?_
      rintro e w4 ⟨v, rfl, hown, hb⟩
      obtain ⟨ad2, cp2, rfl, hr, hln2⟩ := own_intsL hown
      have H5 := Lib.hid ((H.out.below hb).add (kInts .i64 w4.heap.size ad2 (bitsL 10).length (fun i => (bitsL 10).getD i 0)) ⟨hr, Nat.le_refl _⟩)
      clear hown hr hb H
      go_wp2_with fail
      have h10 := bits_ten
      have hI := ints_up (H5.out.get _ (List.mem_cons_self ..))
      simp only [h10] at hI ⊢
      have HI := keep hI
      clear hI h10
      have H6 := Lib.hid ((H5.out.tail).add (kInts .i64 w4.heap.size ad2 2 (fun i => [1, 3].getD i 0)) ⟨HI.out, Nat.le_refl _⟩)
      clear H5
      have H7 := Lib.hid (H6.out.alloc w4.heap.size 3 [.int .i64 1, .int .i64 3] rfl)
      clear H6
      generalize (w4.alloc (.cells #[.int .i64 1, .int .i64 3] 3)) = W8 at H7 ⊢
      refine (equal_ints _ _ 2 _ _ (fun i => [1, 3].getD i 0) _ (by omega) (ints_up (H7.out.get _ (List.mem_cons_of_mem _ (List.mem_cons_self ..)))) (ints_of_blk [1, 3] (H7.out.get _ (List.mem_cons_self ..)))).mono ?_
      rintro e w9 ⟨rfl, hb10⟩
      have H11 := Lib.hid (H7.out.below hb10)
      clear hb10 H7
      have F12 := H11.out.sees
      simp only [sees, kBlk, cellsAt, Nat.reduceAdd] at F12
      obtain ⟨⟨z0, c0_0, c0_1, -⟩, -, -, -⟩ := F12
      go_wp2_with fail
      go_ret
      exact ⟨rfl, H11.out.bel⟩
end Go.Proofs.YtjjdlhbbkkkjnaaDoor
