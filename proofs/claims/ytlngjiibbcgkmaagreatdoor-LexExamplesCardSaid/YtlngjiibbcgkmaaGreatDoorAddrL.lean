/- The contract of the laws' fixed address. The walks of the laws AddrLess, AddrOrder and AddrReads. -/
import Derived.Test.YtlngjiibbcgkmaaGreatDoorAddrR
import Derived.Test.YtlngjiibbcgkmaaGreatDoorPow
import Derived.OpenShut
import Derived.Deep.RegionHeld3
namespace Go.Proofs.YtlngjiibbcgkmaaGreatDoor
section
open Go.RowKit

theorem parse_ab12 : parseS [65, 66, 49, 50] = (28, 12, 0) := by decide +kernel
theorem format_ab12 : formatS 28 12 = ([65, 66, 49, 50], 0) := by
  have h := parse_ok [65, 66, 49, 50] (by rw [parse_ab12])
  rw [parse_ab12] at h
  have e : formatS 28 12 = ((formatS 28 12).1, 0) := by rw [formatS_good _ _ (by decide)]
  rw [e, h.2]
  rfl

end
section
open Go.RowKit
end
end Go.Proofs.YtlngjiibbcgkmaaGreatDoor
