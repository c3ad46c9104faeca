/- One byte made a string: string([]byte{b}). -/
import Derived.Test.YtlngjiibbcgkmaaGreatDoorKit
namespace Go.Proofs.YtlngjiibbcgkmaaGreatDoor
open Go.RowKit

theorem run_byte1 {P : Program} (src dst e : TypeId) (hs : P.underlying src = some (.slice e)) (he : P.underlying e = some (.int .u8)) (hd : P.underlying dst = some .string) (W : World) (x : Int) (t : TypeId) :
    (convert src dst (.slice (some ⟨W.heap.size, 0, none⟩) 1 1)).run P (W.alloc (.cells #[.int .u8 x] t)) = .ok (.string ⟨#[UInt8.ofNat x.toNat]⟩) (W.alloc (.cells #[.int .u8 x] t)) := by
  rw [run_convert_bytes_string _ _ _ e _ _ _ hs he hd]
  rw [run_bytesToString _ _ 1 1 [x]]
  · rfl
  · simp [go_sem]
end Go.Proofs.YtlngjiibbcgkmaaGreatDoor
