/- The walk of the law GroupMeets: at a slice that reads as 64-bit numbers it returns true, and nothing that was there is written. -/
import Derived.Test.YtjjdlhbbkkkjnaaGrpMeets
import Derived.Deep.RegionHeld3
import Derived.Deep.AppendLies
import Derived.OpenShut
import Derived.ShapedOpen
import Derived.LaidMore
namespace Go.Proofs.Ytjjdlhbbkkkjnaa.Meets
open Go.RowKit

set_option maxRecDepth 100000 in
set_option maxHeartbeats 4000000 in
theorem walk (a : Option Addr) (n c : Nat) (f : Nat → Nat) (other user : Int) (w : World) (hn : n ≤ maxLen) (hr : IsNums .u64 w w.heap.size a n f) (hz : ∀ i, f i < 18446744073709551616)
    (ho : 0 ≤ other) (ho' : other < 18446744073709551616) :
    Calls Try.prog 3 #[.slice a n c, .int .u64 other, .int .i64 user] w fun e w' => e = .returned (.bool true) ∧ Below w.heap.size w w' := by
  obtain ⟨o, rfl⟩ := Int.eq_ofNat_of_zero_le ho
  have hoo : o < 18446744073709551616 := by omega
  have HZ := Lib.hid hz
  have HO := Lib.hid hoo
  clear hz hoo ho'
  by_cases big : 30 < n
  · unfold maxLen at hn
    go_enter Try.func3, Try.ntmps3
    go_wp2_with fail
    go_ret
    exact ⟨rfl, Below.refl _ _⟩
  · obtain ⟨i0, hi, hz0, hz1, hz2⟩ := info_parts info_u64
    have hm := meetF_lt f n
    obtain ⟨M, hM⟩ : ∃ M, M = meetF f n := ⟨_, rfl⟩
    rw [← hM] at hm
    have HM := Lib.hid hM
    have HMb := Lib.hid hm
    clear hM hm
    rcases (show user < 0 ∨ 64 ≤ user ∨ (0 ≤ user ∧ user < 64) from by omega) with hu | hu | hu
    all_goals
      go_enter Try.func3, Try.ntmps3
      go_wp2_with (first
        | (go_at_call 4; refine (meet_any _ _ _ f _ _ hn hr HZ.out).mono ?_; rintro e w' ⟨rfl, rfl⟩; rw [← HM.out])
        | (at_make; refine wpList_make_own _ rfl _ _ 22 rfl w.heap.size 23 i0 (.int .u64 0) 1 Try.underlying22 hi hz0 hz1 _ _ _ (2 * n) rfl rfl (by omega) (by rw [hz2]; omega) (by unfold maxLen; omega) (Nat.le_refl _) ?_; intro w1 hown hgrow))
      have HOwn := Lib.hid hown
      have HG := Lib.hid hgrow
      clear hown hgrow
      go_loopw [8, 9, 10, 11] (fun b iv av i wr => Rel f n o w.heap.size user w b iv av i wr) (fun _ _ _ i _ => (intOf i + 1).toNat)
      case atStart =>
        refine ⟨0, by omega, ?_, by simpa [cellsB] using HOwn.out, (Below.refl _ _).grown HG.out (Nat.le_refl _) (by simp), ?_, by simp [aF]⟩
        · rcases Nat.eq_zero_or_pos n with h | h
          · right; subst h; exact ⟨rfl, rfl⟩
          · left; exact ⟨h, by congr 1; omega⟩
        · simp [inF]; omega
      case round =>
        obtain ⟨m, hmn, hcase, hown, hbel, rfl, rfl⟩ := hrel
        have HW := Lib.hid hown
        have HB := Lib.hid hbel
        rcases hcase with ⟨hlt, rfl⟩ | ⟨hlt, rfl⟩
        · have hj : n - 1 - m < n := by omega
          obtain ⟨j, hjj⟩ : ∃ j, j = n - 1 - m := ⟨_, rfl⟩
          rw [← hjj] at hj ⊢
          have HJ := Lib.hid hjj
          clear hjj hown hbel
          obtain ⟨ad, rfl, hadB, hc⟩ := hr (by omega)
          have hck : wr.cell? (ad.add j) = some (.int .u64 (f j : Nat)) := (HB.out.cell (by rw [show (ad.add j).block = ad.block from by unfold Addr.add; split <;> rfl]; exact hadB)).trans (hc j hj)
          have hj64 : (j : Int) < 30 := by omega
          have hj2 : (j : Int) < (n : Int) := by omega
          have hj0 : (0 : Int) ≤ (j : Int) := by omega
          have HBj : Hid (Below w.heap.size w wr.drew) := HB.out.drew
          have HWj : Hid (wr.drew.ownsRow w.heap.size 23 1 u8 (2 * m) (cellsB f n m)) := HW.out
          have hckd : wr.drew.cell? (ad.add j) = some (.int .u64 (f j : Nat)) := hck
          have hc0 := hc j hj
          have hsub : bits .andNot .u64 (M : Int) (f j : Int) = 0 := by
            rw [u64_andNot_nat _ _ HMb.out (HZ.out j), HM.out, meet_sub f n j hj HZ.out]; rfl
          have hadd : (ad.add j).block < w.heap.size := by rw [show (ad.add j).block = ad.block from by unfold Addr.add; split <;> rfl]; exact hadB
          go_wp2_with fail
          go_region_held3 (fun w' => w'.cell? (ad.add j) = some (.int .u64 (f j : Nat)))
            (first
              | go_keep
              | (exact ((Below.grown (B := w.heap.size) (HB.out.alloc HB.out.size _).drew hgrow3 (by have := HB.out.size; simp; omega) (fun k hk => (HW.out.lt k hk).1)).cell hadd).trans hc0))
            ((refine step_append_lies _ (by rfl) _ _ _ (by rfl) w.heap.size 23 i0 _ 1 8 Try.underlying22 hi hz0 hz1 hz2 rfl (by omega) _ _ _ (by rfl) ((HW.out.alloc _).drew) ⟨wr.heap.size, 0, none⟩ 2 2 [.int .u64 (f j : Nat), .int .u64 (f j : Nat)] (by rfl) (by rfl) (World.news_of_block (cs := #[.int .u64 (f j : Nat), .int .u64 (f j : Nat)]) (t := 23) (fr := (0, 0)) (heap_alloc_new wr _)) (by simp [Value.oneCell']) (by omega) (by unfold maxLen; omega) (by omega) (by have := HB.out.size; simp; omega) (wr.heap.size + 1) (by simp) ?_; intro gg cap w3 hown3 hgrow3 hat hlt))
          have HB3 : Hid (Below w.heap.size w w3) := Below.grown (B := w.heap.size) (HB.out.alloc HB.out.size _).drew hgrow3 (by have := HB.out.size; simp; omega) (fun k hk => (HW.out.lt k hk).1)
          have HW3 := Lib.hid hown3
          have hcw3 : w3.cell? (ad.add j) = some (.int .u64 (f j : Nat)) := (HB3.out.cell hadd).trans hc0
          clear hown3 hgrow3 hat hlt hck hckd HW HB hc
          generalize hI : inF f n user m = bI
          generalize hA : aF f n o m = bA
          have HI := Lib.hid hI
          have HA := Lib.hid hA
          clear hI hA
          cases bI <;> cases bA
          all_goals
            go_wp2_with (first
              | (go_at_call 5; refine (has_any _ _ _ (by omega) (by have := HZ.out j; omega)).mono ?_; rintro e w' ⟨rfl, rfl⟩))
            refine ⟨⟨m + 1, by omega, ?_, ?_, HB3.out, ?_, ?_⟩, by simp [intOf] <;> omega⟩
            · have := HJ.out
              rcases Nat.lt_or_ge (m + 1) n with h | h
              · left; exact ⟨h, by congr 1; omega⟩
              · right; exact ⟨by omega, by congr 1; omega⟩
            · rw [cellsB_succ, ← HJ.out]; exact HW3.out
            · rw [inF, HI.out, ← HJ.out]; simp
            · rw [aF, HA.out, ← HJ.out]
              first
                | rfl
                | (rw [u64_andNot_nat _ _ HO.out (HZ.out j), beq0]; simp)
        · subst hlt
          clear hown hbel
          obtain ⟨ba, bc, rfl, hbk, hbn⟩ := own_nums (k := .u64) (f := bk f m) HW.out (fun i hi => by simp [cellsB, hi])
          have HBK := Lib.hid hbk
          clear hbk
          have hall : (bits .andNot .u64 (o : Int) (M : Int) == 0) = aF f m o m := by
            rw [u64_andNot_nat _ _ HO.out HMb.out, beq0, all_meet f m o HO.out HZ.out, HM.out]
          generalize hI : inF f m user m = bI
          generalize hA : aF f m o m = bA at hall ⊢
          have HI := Lib.hid hI
          clear hI hA
          go_wp2_with fail
          refine (meet_any _ _ _ (bk f m) wr.heap.size _ hbn HBK.out (fun i => HZ.out _)).mono ?_
          rintro e w' ⟨rfl, rfl⟩
          rw [meet_back, ← HM.out]
          go_wp2_with fail
          refine (has_any _ _ _ (by omega) (by have := HMb.out; omega)).mono ?_
          rintro e w' ⟨rfl, rfl⟩
          rw [show hasB (Int.toNat (M : Int)) user = bI from by rw [Int.toNat_natCast, HM.out, ← has_meet, HI.out]]
          go_wp2_with fail
          refine (meet_any _ _ _ (fun i => if i = 0 then 12 else 5) (wr.heap.size + 1) _ (by unfold maxLen; omega) (fun _ => ⟨_, rfl, by simp, ?_⟩) (fun i => by split <;> omega)).mono ?_
          · intro i hi
            rcases (show i = 0 ∨ i = 1 from by omega) with rfl | rfl
            · exact cell_two_new _ _ _ _ 0 _ rfl
            · exact cell_two_new _ _ _ _ 1 _ rfl
          · rintro e w' ⟨rfl, rfl⟩
            rw [show meetF (fun i => if i = 0 then 12 else 5) 2 = 4 from by decide]
            go_wp2_with fail
            go_ret
            exact ⟨rfl, HB.out.alloc HB.out.size _⟩

theorem law (a : Option Addr) (n c : Nat) (f : Nat → Int) (other user : Int) (w : World) (hn : n ≤ maxLen) (hr : IsInts .u64 w w.heap.size a n f) (hz : ∀ i, (Lit.int .u64 (f i)).wf = true)
    (ho : (Lit.int .u64 other).wf = true) (_ : (Lit.int .i64 user).wf = true) (_ : laidMetH Try.prog Rows.groupMeetsRow.laid w) (_ : w.ShapedOpen Try.prog) :
    Calls Try.prog 3 #[.slice a n c, .int .u64 other, .int .i64 user] w fun e w' => e = .returned (.bool true) ∧ Below w.heap.size w w' := by
  have hb := bounds_u64 ho
  exact walk a n c (fun i => (f i).toNat) other user w hn (hr.nums fun i => (bounds_u64 (hz i)).1) (fun i => by have := bounds_u64 (hz i); omega) hb.1 (by omega)
end Go.Proofs.Ytjjdlhbbkkkjnaa.Meets
