/- The contract of the reference's Upper. -/
import Derived.Test.YtlngjiibbcgkmaaGreatDoorLexC
import Derived.Test.YtlngjiibbcgkmaaGreatDoorOk
namespace Go.Proofs.YtlngjiibbcgkmaaGreatDoor
open Go.RowKit

set_option maxHeartbeats 1000000 in
theorem ref4_Upper (s : ByteArray) (w : World) (hs : s.size ≤ 4611686018427387904) :
    Calls Tryz.prog 106 #[.string s] w fun e w' => e = .returned (.string ⟨(s.data.toList.map upB).toArray⟩) ∧ Below w.heap.size w w' := by
  have hcv := run_bytes_of_string (P := Tryz.prog) w 9 49 5 s Tryz.underlying9 Tryz.underlying49 Tryz.underlying5
  have hm := Bytes8.made w.drew s 5 (grownCap w s.size 0 5)
  have hbl : Below w.heap.size w (w.drew.alloc (.cells (bytesRow s (grownCap w s.size 0 5)) 5 ((bytesRow s (grownCap w s.size 0 5)).size, (bytesRow s (grownCap w s.size 0 5)).size + 1))) := (Below.refl _ _).drew.alloc (Nat.le_refl _) _
  generalize (w.drew.alloc (.cells (bytesRow s (grownCap w s.size 0 5)) 5 ((bytesRow s (grownCap w s.size 0 5)).size, (bytesRow s (grownCap w s.size 0 5)).size + 1))) = W0 at hcv hm hbl
  generalize grownCap w s.size 0 5 = cap at hcv
  have HM : Hid (Bytes8 W0 w.heap.size s.data.toList) := hm
  have HB := Lib.hid hbl
  clear hm hbl
  have hlen : s.data.toList.length = s.size := by simp
  have HL := Lib.hid hlen
  clear hlen
  go_enter Tryz.func106, Tryz.ntmps106
  go_wp2_with fail
  go_loopw [4] (fun i wr => ∃ k : Nat, k ≤ s.size ∧ i = .int .i64 k ∧ Hid (Bytes8 wr w.heap.size (upTo s.data.toList k)) ∧ Hid (Below w.heap.size w wr)) (fun i _ => s.size - (intOf i).toNat)
  case atStart => exact ⟨0, Nat.zero_le _, rfl, by simpa [upTo] using HM, HB⟩
  case round =>
    obtain ⟨k, hk, rfl, H1, H2⟩ := hrel
    clear HM HB hcv
    by_cases hlt : k < s.size
    · have hlt' : k < s.data.toList.length := by rw [HL.out]; exact hlt
      have hcell := (H1.out k (by rw [upTo_len]; exact hlt')).1
      have hfroz := (H1.out k (by rw [upTo_len]; exact hlt')).2
      rw [upTo_at _ _ hlt'] at hcell
      obtain ⟨b, hb⟩ : ∃ b, b = s.data.toList[k] := ⟨_, rfl⟩
      rw [← hb] at hcell
      have HBy := Lib.hid hb
      have HLT := Lib.hid hlt'
      have hb8 : b.toNat < 256 := b.toNat_lt
      clear hb
      rcases (show (97 ≤ b.toNat ∧ b.toNat ≤ 122) ∨ b.toNat < 97 ∨ 122 < b.toNat from by omega) with ⟨h1, h2⟩ | h1 | h1
      · go_wp2_with fail
        go_roundw
        case rel =>
          refine ⟨k + 1, by omega, by go_num, ?_, Lib.hid (H2.out.setCell (Nat.le_refl _) _)⟩
          show Bytes8 _ _ _
          rw [upTo_succ _ _ HLT.out, ← HBy.out]
          exact H1.out.set_ k (by rw [upTo_len]; exact HLT.out) _ _ (by rw [upB_low b ⟨h1, h2⟩]; omega)
        case measure => simp [intOf]; omega
      · go_wp2_with fail
        go_roundw
        case rel => exact ⟨k + 1, by omega, by go_num, by rw [upTo_same _ _ HLT.out (by rw [← HBy.out]; exact upB_same b (by omega))]; exact H1, H2⟩
        case measure => simp [intOf]; omega
      · go_wp2_with fail
        go_roundw
        case rel => exact ⟨k + 1, by omega, by go_num, by rw [upTo_same _ _ HLT.out (by rw [← HBy.out]; exact upB_same b (by omega))]; exact H1, H2⟩
        case measure => simp [intOf]; omega
    · have hke : upTo s.data.toList k = s.data.toList.map upB := by
        have : k = s.data.toList.length := by rw [HL.out]; omega
        unfold upTo
        rw [List.take_of_length_le (by omega), List.drop_eq_nil_of_le (by omega), List.append_nil]
      have h1 := H1.out
      rw [hke] at h1
      have hcv2 := h1.string (P := Tryz.prog) 49 9 5 Tryz.underlying49 Tryz.underlying5 Tryz.underlying9 cap
      rw [List.length_map, HL.out] at hcv2
      clear h1 hke
      go_wp2_with fail
      go_ret
      exact ⟨rfl, H2.out⟩
end Go.Proofs.YtlngjiibbcgkmaaGreatDoor
