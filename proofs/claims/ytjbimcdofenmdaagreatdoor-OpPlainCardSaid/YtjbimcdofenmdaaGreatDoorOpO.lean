/- OpPlain, with the row's own conditions. -/
import Derived.Test.YtjbimcdofenmdaaGreatDoorOpM
import Derived.Test.YtjbimcdofenmdaaGreatDoorOpN
namespace Go.Proofs.YtjbimcdofenmdaaGreatDoor
open Go.RowKit
theorem env6_of {W : World} {l : List (String × DataW Unit)} (h : laidMetH Tryz.prog l W) (hS : W.ShapedOpen Tryz.prog)
    (hp : l.filter (fun x => x.1 == "internal/strconv.uint64pow10") = [("internal/strconv.uint64pow10", Rows.laid_internal_strconv_uint64pow10)])
    (hl : l.filter (fun x => x.1 == "math/bits.deBruijn64tab") = [("math/bits.deBruijn64tab", Rows.laid_math_bits_deBruijn64tab)])
    (hs : l.filter (fun x => x.1 == "strconv.ErrSyntax") = [("strconv.ErrSyntax", Rows.laid_strconv_ErrSyntax)])
    (hr : l.filter (fun x => x.1 == "strconv.ErrRange") = [("strconv.ErrRange", Rows.laid_strconv_ErrRange)]) : Env6 W := ⟨pow_of_laid h hp, env_of h hS hl hs hr⟩
theorem OpPlain_walk (x : OpV) (w : World) (_hx : x.Ok) (hL : laidMetH Tryz.prog Rows.opPlainRow.laid w) (hS : w.ShapedOpen Tryz.prog) :
    Calls Tryz.prog 7 #[x.V] w fun e w' => e = .returned (.bool true) ∧ Below w.heap.size w w' :=
  law_OpPlain x w (env6_of hL hS (by kernel_rfl) (by kernel_rfl) (by kernel_rfl) (by kernel_rfl))
end Go.Proofs.YtjbimcdofenmdaaGreatDoor
