/- The walk of the law GroupTexts. -/
import Derived.Test.YtjjdlhbbkkkjnaaDoorGrpS
namespace Go.Proofs.YtjjdlhbbkkkjnaaDoor
open Go.RowKit

theorem fmt9 : fmtL 9 = [48, 44, 51] := by decide +kernel
attribute [local irreducible] parseG parseR fmtL byt
set_option maxRecDepth 100000 in
set_option maxHeartbeats 4000000 in
theorem GroupTexts_walk (a0 : Int) (s1 : ByteArray) (w : World) (w0 : (Lit.int .u64 a0).wf = true) (_ : s1.size ≤ maxLen)
    (hL : laidMetH Tryd.prog Rows.groupTextsRow.laid w) (hS : w.ShapedOpen Tryd.prog) :
    Calls Tryd.prog 5 #[.int .u64 a0, .string s1] w fun e w' => e = .returned (.bool true) ∧ Below w.heap.size w w' := by
  have HE := keep (env_of hL hS (by kernel_rfl) (by kernel_rfl) (by kernel_rfl))
  clear hL hS
  have hb0 := bounds_u64 w0
  obtain ⟨n, rfl⟩ := Int.eq_ofNat_of_zero_le hb0.1
  have hn : n < 18446744073709551616 := by omega
  clear w0 hb0
  by_cases hl : (s1.size : Int) > 400
  · go_enter Tryd.func5, Tryd.ntmps5
    go_wp2_with fail
    go_ret
    exact ⟨rfl, Below.refl _ _⟩
  have hs : s1.size ≤ 400 := by omega
  go_enter Tryd.func5, Tryd.ntmps5
  go_wp2_with fail
  refine (group_parse s1 _ (by omega) HE.out).mono ?_
  rintro e w1 ⟨rfl, hb1⟩
  have HB1 := Lib.hid hb1
  have HP := keep (parse_same s1.data.toList)
  generalize parseG s1.data.toList = p at HP ⊢
  obtain ⟨p0, p1⟩ := p
  clear hb1
  go_wp2_with fail
  refine (ref_parse s1 _ (by omega)).mono ?_
  rintro e w2 ⟨rfl, rfl⟩
  rw [← HP.out]
  clear HP
  go_wp2_with fail
  refine (group_format n _ hn (HE.out.below HB1.out).1).mono ?_
  rintro e w2 ⟨rfl, hb2⟩
  have HB2 := Lib.hid (below_step HB1.out hb2)
  clear hb2
  generalize hF : byt (fmtL n) = FB
  have HF := keep hF
  clear hF
  go_wp2_with fail
  refine (ref_format n _ hn).mono ?_
  rintro e w3 ⟨rfl, rfl⟩
  rw [HF.out]
  go_wp2_with fail
  refine (group_format 9 _ (by decide) (HE.out.below HB2.out).1).mono ?_
  rintro e w3 ⟨rfl, hb3⟩
  have HB3 := Lib.hid (below_step HB2.out hb3)
  clear hb3
  rw [fmt9, show byt [48, 44, 51] = ⟨#[48, 44, 51]⟩ from by unfold byt; rfl]
  go_wp2_with fail
  go_ret
  exact ⟨rfl, HB3.out⟩
end Go.Proofs.YtjjdlhbbkkkjnaaDoor
