/- OpExamples, with the row's own conditions. -/
import Derived.Test.YtjbimcdofenmdaaGreatDoorMOpX
import Derived.Test.YtjbimcdofenmdaaGreatDoorMOpN
namespace Go.Proofs.YtjbimcdofenmdaaGreatDoor
open Go.RowKit

theorem OpExamples_walk (w : World) (hL : laidMetH Tryz.prog Rows.opExamplesRow.laid w) (hS : w.ShapedOpen Tryz.prog) :
    Calls Tryz.prog 5 #[] w fun e w' => e = .returned (.bool true) ∧ Below w.heap.size w w' :=
  law_OpExamples w (env6_of hL hS (by kernel_rfl) (by kernel_rfl) (by kernel_rfl) (by kernel_rfl))
end Go.Proofs.YtjbimcdofenmdaaGreatDoor
