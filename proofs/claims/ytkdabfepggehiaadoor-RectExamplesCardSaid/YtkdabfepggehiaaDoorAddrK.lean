/- The contract of the laws' fixed address. -/
import Derived.Test.YtkdabfepggehiaaDoorAddrR
import Derived.Test.YtkdabfepggehiaaDoorPow
namespace Go.Proofs.YtkdabfepggehiaaDoor
open Go.RowKit

theorem parse_ab12 : parseS [65, 66, 49, 50] = (28, 12, 0) := by decide +kernel
theorem format_ab12 : formatS 28 12 = ([65, 66, 49, 50], 0) := by
  have h := parse_ok [65, 66, 49, 50] (by rw [parse_ab12])
  rw [parse_ab12] at h
  have e : formatS 28 12 = ((formatS 28 12).1, 0) := by rw [formatS_good _ _ (by decide)]
  rw [e, h.2]
  rfl

set_option maxHeartbeats 1000000 in
theorem addr_known (w : World) (hp : Pow w) :
    Calls Tryd.prog 30 #[] w fun e w' => e = .returned (.bool true) ∧ Below w.heap.size w w' := by
  have HP := Lib.hid hp
  clear hp
  go_enter Tryd.func30, Tryd.ntmps30
  go_wp2_with fail
  refine (addr_Parse _ _ (by decide)).mono ?_
  rintro e w1 ⟨rfl, hb⟩
  have HB := Lib.hid hb
  clear hb
  simp only [parse_ab12]
  go_wp2_with fail
  refine (addr_Format _ _ _ (HP.out.below (HB.out.alloc HB.out.size _))).mono ?_
  rintro e w2 ⟨rfl, hb2⟩
  rw [format_ab12]
  have c0 := hb2.cell (p := ⟨w1.heap.size, 0, none⟩) (by simp)
  have c1 := hb2.cell (p := ⟨w1.heap.size, 1, none⟩) (by simp)
  have HB2 := Lib.hid ((HB.out.alloc HB.out.size (.cells #[.int .i64 28, .int .i64 12] 23)).trans (hb2.mono (by have := HB.out.size; simp; omega)))
  clear hb2
  go_wp2_with fail
  go_ret
  exact ⟨rfl, HB2.out⟩
end Go.Proofs.YtkdabfepggehiaaDoor
