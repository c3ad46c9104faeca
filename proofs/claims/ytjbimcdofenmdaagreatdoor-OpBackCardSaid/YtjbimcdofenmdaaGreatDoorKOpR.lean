/- OpBack, with the row's own conditions. -/
import Derived.Test.YtjbimcdofenmdaaGreatDoorKOpQ
import Derived.Test.YtjbimcdofenmdaaGreatDoorKOpN
namespace Go.Proofs.YtjbimcdofenmdaaGreatDoor
open Go.RowKit

theorem OpBack_walk (x y : OpV) (s : ByteArray) (w : World) (hx : x.Ok) (hy : y.Ok) (_hs : s.size ≤ maxLen) (hL : laidMetH Tryz.prog Rows.opBackRow.laid w) (hS : w.ShapedOpen Tryz.prog) :
    Calls Tryz.prog 6 #[x.V, y.V, .string s] w fun e w' => e = .returned (.bool true) ∧ Below w.heap.size w w' :=
  law_OpBack x y hx hy s.data.toList w (env6_of hL hS (by kernel_rfl) (by kernel_rfl) (by kernel_rfl) (by kernel_rfl))
end Go.Proofs.YtjbimcdofenmdaaGreatDoor
