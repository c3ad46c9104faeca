/- Contracts of package addr's and its reference's small functions: Less, Index. -/
import Derived.Test.YtlngjiibbcgkmaaGreatDoorValidR
import Derived.Test.YtlngjiibbcgkmaaGreatDoorKit
import Derived.Test.YtlngjiibbcgkmaaGreatDoorAddrP
import Derived.Test.YtlngjiibbcgkmaaGreatDoorValid
namespace Go.Proofs.YtlngjiibbcgkmaaGreatDoor
open Go.RowKit
end Go.Proofs.YtlngjiibbcgkmaaGreatDoor
