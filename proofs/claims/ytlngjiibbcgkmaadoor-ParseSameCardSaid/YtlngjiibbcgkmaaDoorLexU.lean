/- The contract of glyph.Upper. -/
import Derived.Test.YtlngjiibbcgkmaaDoorBytes
import Derived.Test.YtlngjiibbcgkmaaDoorOk
import Derived.RangeFuncBox
import Derived.RangeFuncNested
namespace Go.Proofs.YtlngjiibbcgkmaaDoor
open Go.RowKit

theorem moved_up (b : UInt8) (o p : Nat) (w : World) (h1 : w.cell? ⟨o, 0, none⟩ = some (.int .u8 97)) (h2 : w.cell? ⟨p, 0, none⟩ = some (.int .i64 (-32))) :
    Calls Tryd.prog 75 #[.int .u8 b.toNat, .pointer (some ⟨o, 0, none⟩), .pointer (some ⟨p, 0, none⟩)] w fun e w' => e = .returned (.int .u8 (upB b).toNat) ∧ w' = w := by
  have hb8 : b.toNat < 256 := b.toNat_lt
  rcases (show (97 ≤ b.toNat ∧ b.toNat ≤ 122) ∨ b.toNat < 97 ∨ 122 < b.toNat from by omega) with ⟨g1, g2⟩ | g1 | g1
  · have hu := keep (upB_low b ⟨g1, g2⟩)
    go_enter Tryd.func75, Tryd.ntmps75
    go_wp2_with fail
    go_ret
    exact ⟨by rw [hu.out]; simp; omega, rfl⟩
  · have hu := keep (upB_same b (by omega))
    go_enter Tryd.func75, Tryd.ntmps75
    go_wp2_with fail
    go_ret
    exact ⟨by rw [hu.out]; rfl, rfl⟩
  · have hu := keep (upB_same b (by omega))
    go_enter Tryd.func75, Tryd.ntmps75
    go_wp2_with fail
    go_ret
    exact ⟨by rw [hu.out]; rfl, rfl⟩
set_option maxHeartbeats 1000000 in
theorem changed_up (s : ByteArray) (o p : Nat) (w : World) (hs : s.size ≤ 4611686018427387904) (h1 : Boxed w o 5 (.int .u8 97)) (h2 : Boxed w p 3 (.int .i64 (-32))) :
    Calls Tryd.prog 65 #[.string s, .func (.func 75) #[] #[.pointer (some ⟨o, 0, none⟩), .pointer (some ⟨p, 0, none⟩)]] w fun e w' => ∃ cap, e = .returned (.slice (some ⟨w.heap.size, 0, none⟩) s.size cap) ∧ Bytes8 w' w.heap.size (s.data.toList.map upB) ∧ Below w.heap.size w w' := by
  have hcv := run_bytes_of_string (P := Tryd.prog) w 9 40 5 s Tryd.underlying9 Tryd.underlying40 Tryd.underlying5
  have hm := Bytes8.made w.drew s 5 (grownCap w s.size 0 5)
  have hbl : Below w.heap.size w (w.drew.alloc (.cells (bytesRow s (grownCap w s.size 0 5)) 5 ((bytesRow s (grownCap w s.size 0 5)).size, (bytesRow s (grownCap w s.size 0 5)).size + 1))) := (Below.refl _ _).drew.alloc (Nat.le_refl _) _
  generalize (w.drew.alloc (.cells (bytesRow s (grownCap w s.size 0 5)) 5 ((bytesRow s (grownCap w s.size 0 5)).size, (bytesRow s (grownCap w s.size 0 5)).size + 1))) = W0 at hcv hm hbl
  generalize grownCap w s.size 0 5 = cap at hcv
  have HM : Hid (Bytes8 W0 w.heap.size s.data.toList) := hm
  have HB := Lib.hid hbl
  have HO := Lib.hid h1
  have HP := Lib.hid h2
  clear hm hbl h1 h2
  have hlen : s.data.toList.length = s.size := by simp
  have HL := Lib.hid hlen
  clear hlen
  go_enter Tryd.func65, Tryd.ntmps65
  go_wp2_with fail
  go_loopw [12] (fun i wr => ∃ k : Nat, k ≤ s.size ∧ i = .int .i64 k ∧ Hid (Bytes8 wr w.heap.size (upTo s.data.toList k)) ∧ Hid (Below w.heap.size w wr)) (fun i _ => s.size - (intOf i).toNat)
  case atStart => exact ⟨0, Nat.zero_le _, rfl, by simpa [upTo] using HM, HB⟩
  case round =>
    obtain ⟨k, hk, rfl, H1, H2⟩ := hrel
    clear HM HB hcv
    by_cases hlt : k < s.size
    · have hlt' : k < s.data.toList.length := by rw [HL.out]; exact hlt
      have hcell := (H1.out k (by rw [upTo_len]; exact hlt')).1
      have hfroz := (H1.out k (by rw [upTo_len]; exact hlt')).2
      rw [upTo_at _ _ hlt'] at hcell
      obtain ⟨b, hb⟩ : ∃ b, b = s.data.toList[k] := ⟨_, rfl⟩
      rw [← hb] at hcell
      have HBy := Lib.hid hb
      have HLT := Lib.hid hlt'
      clear hb
      go_wp2_with fail
      refine (moved_up b o p _ ((H2.out.cell (p := ⟨o, 0, none⟩) HO.out.lt).trans HO.out.cell) ((H2.out.cell (p := ⟨p, 0, none⟩) HP.out.lt).trans HP.out.cell)).mono ?_
      rintro e w5 ⟨rfl, rfl⟩
      go_wp2_with fail
      go_roundw
      case rel =>
        refine ⟨k + 1, by omega, by go_num, ?_, Lib.hid (H2.out.setCell (Nat.le_refl _) _)⟩
        show Bytes8 _ _ _
        rw [upTo_succ _ _ HLT.out, ← HBy.out]
        exact H1.out.set_ k (by rw [upTo_len]; exact HLT.out) _ _ rfl
      case measure => simp [intOf]; omega
    · have hke : upTo s.data.toList k = s.data.toList.map upB := by
        have : k = s.data.toList.length := by rw [HL.out]; omega
        unfold upTo
        rw [List.take_of_length_le (by omega), List.drop_eq_nil_of_le (by omega), List.append_nil]
      rw [hke] at H1
      clear hke
      go_wp2_with fail
      go_ret
      exact ⟨_, rfl, H1.out, H2.out⟩
set_option maxHeartbeats 1000000 in
theorem glyph_moved_up (s : ByteArray) (w : World) (hs : s.size ≤ 4611686018427387904) :
    Calls Tryd.prog 56 #[.string s, .int .u8 97, .int .i64 (-32)] w fun e w' => e = .returned (.string ⟨(s.data.toList.map upB).toArray⟩) ∧ Below w.heap.size w w' := by
  have b1 := Boxed.new w 5 (.int .u8 97)
  have b2 := Boxed.new (w.alloc (.cells #[.int .u8 97] 5)) 3 (.int .i64 (-32))
  have b1' := b1.alloc (.cells #[.int .i64 (-32)] 3)
  have hB : Below w.heap.size w ((w.alloc (.cells #[.int .u8 97] 5)).alloc (.cells #[.int .i64 (-32)] 3)) := ((Below.refl _ w).alloc (Nat.le_refl _) _).alloc (by simp) _
  rw [World.size_alloc] at b2
  have HB := Lib.hid hB
  have HB1 := Lib.hid b1'
  have HB2 := Lib.hid b2
  clear b1 b2 b1' hB
  go_enter Tryd.func56, Tryd.ntmps56
  go_wp2_with fail
  generalize (w.alloc (.cells #[.int .u8 97] 5)).alloc (.cells #[.int .i64 (-32)] 3) = W0 at HB HB1 HB2 ⊢
  refine (changed_up s _ _ _ hs HB1.out HB2.out).mono ?_
  rintro e w1 ⟨cap, rfl, hb8, hb⟩
  have HB3 := Lib.hid (below_step HB.out hb)
  have hcv2 := hb8.string (P := Tryd.prog) 40 9 5 Tryd.underlying40 Tryd.underlying5 Tryd.underlying9 cap
  rw [List.length_map, show s.data.toList.length = s.size from by simp] at hcv2
  clear hb8 hb HB HB1 HB2
  go_wp2_with fail
  go_ret
  exact ⟨rfl, HB3.out⟩
theorem glyph_Upper (s : ByteArray) (w : World) (hs : s.size ≤ 4611686018427387904) :
    Calls Tryd.prog 39 #[.string s] w fun e w' => e = .returned (.string ⟨(s.data.toList.map upB).toArray⟩) ∧ Below w.heap.size w w' := by
  go_enter Tryd.func39, Tryd.ntmps39
  go_wp2_with fail
  refine (glyph_moved_up s _ hs).mono ?_
  rintro e w1 ⟨rfl, hb⟩
  have HB := Lib.hid hb
  clear hb
  go_wp2_with fail
  go_ret
  exact ⟨rfl, HB.out⟩
end Go.Proofs.YtlngjiibbcgkmaaDoor
