/- Trees that were handed in. -/
import Derived.Test.YthdmpajkacmkdaaGreatDoorGRft
import Derived.Test.YthdmpajkacmkdaaGreatDoorGNdF
namespace Go.Proofs.YthdmpajkacmkdaaGreatDoor
open Go.RowKit
structure iU (a:NdA):Prop where
 num : -9223372036854775808≤a.vn∧a.vn≤9223372036854775807
 txt:a.vt.length≤maxLen
 fnb:a.fn≤255
