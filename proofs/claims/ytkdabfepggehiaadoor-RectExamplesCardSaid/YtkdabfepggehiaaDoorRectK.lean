/- The contract of the rect laws' fixed ranges. -/
import Derived.Test.YtkdabfepggehiaaDoorRectF
namespace Go.Proofs.YtkdabfepggehiaaDoor
open Go.RowKit

theorem format_of_parse {l : List UInt8} {c r : Int} (h : parseS l = (c, r, 0)) (hv : validN c r = true) : formatS c r = (l.map upB, 0) := by
  have h1 := parse_ok l (by rw [h])
  rw [h] at h1
  have e : formatS c r = ((formatS c r).1, 0) := by rw [formatS_good _ _ hv]
  rw [e, h1.2]
theorem fmt_known : fmtR ⟨2, 2, 3, 3⟩ = ([66, 50, 58, 67, 51], 0) := by
  rw [fmtR_yes (by decide)]
  unfold fmtL
  simp only []
  rw [if_neg (by decide), format_of_parse (l := [66, 50]) (c := 2) (r := 2) (by decide +kernel) (by decide), format_of_parse (l := [67, 51]) (c := 3) (r := 3) (by decide +kernel) (by decide)]
  rfl
theorem meet_known : meetS ⟨1, 1, 3, 3⟩ ⟨2, 2, 4, 4⟩ = ⟨2, 2, 3, 3⟩ ∧ meets ⟨1, 1, 3, 3⟩ ⟨2, 2, 4, 4⟩ = true := by decide

theorem rect_of (a1 a2 a3 a4 : Int) (w : World) :
    Calls Tryd.prog 60 #[.int .i64 a1, .int .i64 a2, .int .i64 a3, .int .i64 a4] w fun e w' => e = .returned (.agg #[.int .i64 a1, .int .i64 a2, .int .i64 a3, .int .i64 a4]) ∧ Below w.heap.size w w' := by
  go_enter Tryd.func60, Tryd.ntmps60
  go_wp2
  refine bodyPost_ret (v := .agg #[.int .i64 a1, .int .i64 a2, .int .i64 a3, .int .i64 a4]) (by simp [results, Tryd.results60, go_sem]) rfl ⟨rfl, ?_⟩
  first
    | exact (Below.refl _ _)
    | exact ((Below.refl _ _).alloc (Nat.le_refl _) _)
    | exact ((((((Below.refl _ _).alloc (Nat.le_refl _) _).setCell (by simp) _).setCell (by simp) _).setCell (by simp) _).setCell (by simp) _)

set_option maxRecDepth 100000 in
set_option maxHeartbeats 4000000 in
theorem rect_known (w : World) (hp : Pow w) :
    Calls Tryd.prog 34 #[] w fun e w' => e = .returned (.bool true) ∧ Below w.heap.size w w' := by
  have HP := Lib.hid hp
  clear hp
  go_enter Tryd.func34, Tryd.ntmps34
  go_wp2_with fail
  refine (rect_of _ _ _ _ _).mono ?_
  rintro e w1 ⟨rfl, hb⟩
  have HB1 := Lib.hid hb
  clear hb
  go_wp2_with fail
  refine (rect_of _ _ _ _ _).mono ?_
  rintro e w2 ⟨rfl, hb⟩
  have HB2 := Lib.hid (below_step HB1.out hb)
  clear hb HB1
  go_wp2_with fail
  refine (rect_Meet _ _ _ _ _ _ _ _ _).mono ?_
  rintro e w3 ⟨rfl, hb⟩
  rw [meet_known.1, meet_known.2]
  have HB3 := Lib.hid (below_step HB2.out hb)
  clear hb HB2
  have hb4 : Below w.heap.size w (w3.alloc (.cells #[.int .i64 2, .int .i64 2, .int .i64 3, .int .i64 3] 38)) := HB3.out.alloc HB3.out.size _
  have K1 := Blk.new w3 38 #[.int .i64 2, .int .i64 2, .int .i64 3, .int .i64 3]
  have hz : w3.heap.size < (w3.alloc (.cells #[.int .i64 2, .int .i64 2, .int .i64 3, .int .i64 3] 38)).heap.size := by simp
  have HB4 := Lib.hid hb4
  have HK1 := Lib.hid K1
  clear hb4 K1
  go_wp2_with fail
  generalize (w3.alloc (.cells #[.int .i64 2, .int .i64 2, .int .i64 3, .int .i64 3] 38)) = W4 at HB4 HK1 hz ⊢
  refine (rect_Format _ _ _ _ _ (HP.out.below HB4.out)).mono ?_
  rintro e w5 ⟨rfl, hb⟩
  rw [fmt_known]
  have k1 := HK1.out.below hb hz
  have c0 := k1.cell 0
  have c1 := k1.cell 1
  have c2 := k1.cell 2
  have c3 := k1.cell 3
  simp only [List.getElem?_toArray, List.getElem?_cons_zero, List.getElem?_cons_succ] at c0 c1 c2 c3
  have HB5 := Lib.hid (below_step HB4.out hb)
  have hz5 : w3.heap.size < w5.heap.size := by have := hb.size; omega
  clear hb k1 HK1 HB4 hz
  go_wp2_with fail
  refine (rect_Has _ _ _ _ _ _ _).mono ?_
  rintro e w6 ⟨rfl, hb⟩
  rw [show hasR ⟨2, 2, 3, 3⟩ 3 2 = true from by decide]
  have e0 := cell_step hb c0
  have e1 := cell_step hb c1
  have e2 := cell_step hb c2
  have e3 := cell_step hb c3
  have HB6 := Lib.hid (below_step HB5.out hb)
  clear hb c0 c1 c2 c3 HB5
  go_wp2_with fail
  refine (rect_Has _ _ _ _ _ _ _).mono ?_
  rintro e w7 ⟨rfl, hb⟩
  rw [show hasR ⟨2, 2, 3, 3⟩ 1 2 = false from by decide]
  have HB7 := Lib.hid (below_step HB6.out hb)
  clear hb HB6
  go_wp2_with fail
  go_ret
  exact ⟨rfl, HB7.out⟩
end Go.Proofs.YtkdabfepggehiaaDoor
