/- Trees that were handed in. -/
import Derived.Test.YtfffihcadhfplaaGreatDoorPParM
import Derived.Test.YtfffihcadhfplaaGreatDoorPNdF
namespace Go.Proofs.YtfffihcadhfplaaGreatDoor
open Go.RowKit
structure NdIn (a:NdA):Prop where
 num : -9223372036854775808≤a.vn∧a.vn≤9223372036854775807
 txt:a.vt.length≤maxLen
 fnb:a.fn≤255
