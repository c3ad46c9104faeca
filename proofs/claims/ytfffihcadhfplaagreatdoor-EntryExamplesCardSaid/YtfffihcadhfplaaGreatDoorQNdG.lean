/- Trees that were handed in. -/
import Derived.Test.YtfffihcadhfplaaGreatDoorQGiv
import Derived.Test.YtfffihcadhfplaaGreatDoorQNdF
namespace Go.Proofs.YtfffihcadhfplaaGreatDoor
open Go.RowKit
theorem fl_u8:Flat Tryz.prog 5 [.int .u8]:=.int (by kernel_rfl)
theorem fl_i64:Flat Tryz.prog 2 [.int .i64]:=.int (by kernel_rfl)
theorem fl_str:Flat Tryz.prog 9 [.str]:=.str (by kernel_rfl)
theorem fl_val:Flat Tryz.prog 23 [.int .u8,.int .i64,.str] :=
 flat_struct [[.int .u8],[.int .i64],[.str]] Tryz.underlying23 ⟨⟨fl_u8,by kernel_rfl⟩,⟨fl_i64,by kernel_rfl⟩,⟨fl_str,by kernel_rfl⟩,trivial⟩ ⟨rfl,rfl,rfl,trivial⟩ (by kernel_rfl)
structure NdIn (a:NdA):Prop where
 num : -9223372036854775808≤a.vn∧a.vn≤9223372036854775807
 txt:a.vt.length≤maxLen
 fnb:a.fn≤255
