/- The walk of the law GroupExamples. -/
import Derived.Test.YtjjdlhbbkkkjnaaDoorGrpB
namespace Go.Proofs.YtjjdlhbbkkkjnaaDoor
open Go.RowKit

def exT : List (Nat × List UInt8) := [(0, [45]), (9, [48, 44, 51]), (15, [48, 45, 51]), (18446744073709551615, [42]), (3, [48, 44, 49]), (13835058055282163713, [48, 44, 54, 50, 44, 54, 51]), (7, [48, 45, 50]), (9223372036854775807, [48, 45, 54, 50]), (1099511627790, [49, 45, 51, 44, 52, 48])]
def badT : List (List UInt8) := [[], [48, 44, 49, 44, 50], [48, 48], [50, 44, 49], [48, 45, 54, 51], [54, 52], [48, 45, 49], [49, 44, 49], [48, 44], [44, 48], [48, 45, 45, 50], [45, 49], [48, 45, 50, 45, 52], [42, 42], [48, 59, 49], [32, 48], [57, 57, 57, 57, 57, 57, 57, 57, 57, 57, 57, 57, 57, 57, 57, 57, 57, 57, 57, 57, 57]]
theorem exT_fmt : ∀ x ∈ exT, fmtL x.1 = x.2 ∧ x.1 < 18446744073709551616 := by decide +kernel
theorem badT_all : ∀ x ∈ badT, parseG x = (0, 4) := by decide +kernel
theorem badT_len : ∀ x ∈ badT, x.length ≤ 30 := by decide +kernel
def exCells (l : List (Nat × List UInt8)) : List Value := l.flatMap fun x => [.int .u64 x.1, .string (byt x.2)]
theorem exCells_at (l : List (Nat × List UInt8)) (k : Nat) (x : Nat × List UInt8) (h : l[k]? = some x) : (exCells l)[k * 2]? = some (.int .u64 x.1) ∧ (exCells l)[k * 2 + 1]? = some (.string (byt x.2)) := by
  induction l generalizing k with
  | nil => cases h
  | cons y l ih =>
    cases k with
    | zero => obtain rfl := Option.some.inj h; exact ⟨rfl, rfl⟩
    | succ k =>
      have := ih k h
      rw [show (k + 1) * 2 = k * 2 + 2 from by omega]
      exact this
theorem exCells_eq : (#[.int .u64 0, .string ⟨#[45]⟩, .int .u64 9, .string ⟨#[48, 44, 51]⟩, .int .u64 15, .string ⟨#[48, 45, 51]⟩, .int .u64 18446744073709551615, .string ⟨#[42]⟩, .int .u64 3, .string ⟨#[48, 44, 49]⟩, .int .u64 13835058055282163713, .string ⟨#[48, 44, 54, 50, 44, 54, 51]⟩, .int .u64 7, .string ⟨#[48, 45, 50]⟩, .int .u64 9223372036854775807, .string ⟨#[48, 45, 54, 50]⟩, .int .u64 1099511627790, .string ⟨#[49, 45, 51, 44, 52, 48]⟩] : Array Value) = (exCells exT).toArray := by unfold exT exCells byt; rfl
theorem badCells_eq : (#[.string ⟨#[]⟩, .string ⟨#[48, 44, 49, 44, 50]⟩, .string ⟨#[48, 48]⟩, .string ⟨#[50, 44, 49]⟩, .string ⟨#[48, 45, 54, 51]⟩, .string ⟨#[54, 52]⟩, .string ⟨#[48, 45, 49]⟩, .string ⟨#[49, 44, 49]⟩, .string ⟨#[48, 44]⟩, .string ⟨#[44, 48]⟩, .string ⟨#[48, 45, 45, 50]⟩, .string ⟨#[45, 49]⟩, .string ⟨#[48, 45, 50, 45, 52]⟩, .string ⟨#[42, 42]⟩, .string ⟨#[48, 59, 49]⟩, .string ⟨#[32, 48]⟩, .string ⟨#[57, 57, 57, 57, 57, 57, 57, 57, 57, 57, 57, 57, 57, 57, 57, 57, 57, 57, 57, 57, 57]⟩] : Array Value) = (badT.map fun x => Value.string (byt x)).toArray := by unfold badT byt; rfl
theorem nums_of_blk {w : World} {b : Nat} {t : TypeId} (l : List Nat) (h : Blk w b t (l.map fun x : Nat => Value.int .u64 (x : Int)).toArray) : IsNums .u64 w w.heap.size (some ⟨b, 0, none⟩) l.length (fun i => l.getD i 0) := by
  intro _
  refine ⟨_, rfl, Blk.lt h, fun i hi => ?_⟩
  have := Blk.cell h i
  rw [show (⟨b, 0, none⟩ : Addr).add i = ⟨b, i, none⟩ from by unfold Addr.add; split <;> simp_all, this]
  simp [List.getD_eq_getElem?_getD, List.getElem?_eq_getElem hi]
theorem blk_step {w w' : World} {g : Nat} {t : TypeId} {cs : Array Value} (h : Blk w g t cs) (hb : Below w.heap.size w w') : Blk w' g t cs := h.below hb h.lt
theorem nums_nil {w : World} {f : Nat → Nat} : IsNums .u64 w w.heap.size none 0 f := fun h => absurd h (by omega)
theorem ints_of_blk' {w : World} {b : Nat} {t : TypeId} (l : List Int) (h : Blk w b t (l.map fun x => Value.int .i64 x).toArray) : IsInts .i64 w w.heap.size (some ⟨b, 0, none⟩) l.length (fun i => l.getD i 0) := ints_of_blk (t := t) l h
attribute [local irreducible] parseG parseR fmtL byt bitsL bitsN ofR ofE meetF allR allE hasB exT badT
set_option maxRecDepth 100000 in
set_option maxHeartbeats 8000000 in
theorem GroupExamples_walk (w : World)
    (hL : laidMetH Tryd.prog Rows.groupExamplesRow.laid w) (hS : w.ShapedOpen Tryd.prog) :
    Calls Tryd.prog 7 #[] w fun e w' => e = .returned (.bool true) ∧ Below w.heap.size w w' := by
  have HE := keep (env_of hL hS (by kernel_rfl) (by kernel_rfl) (by kernel_rfl))
  clear hL hS
  go_enter Tryd.func7, Tryd.ntmps7
  go_wp2_with fail
  have hb1 : Below w.heap.size w (w.alloc (.cells #[.int .i64 64] 3)) := (Below.refl _ _).alloc (Nat.le_refl _) _
  have k1 : Blk (w.alloc (.cells #[.int .i64 64] 3)) w.heap.size 3 #[.int .i64 64] := Blk.new _ _ _
  have HB1 := Lib.hid hb1
  have HK1 := Lib.hid k1
  clear hb1 k1
  generalize w.alloc (.cells #[.int .i64 64] 3) = w1 at HB1 HK1 ⊢
  refine (of_any _ 1 _ (fun i => [64].getD i 0) _ _ (by decide) (ints_of_blk' [64] HK1.out)).mono ?_
  rintro e w2 ⟨rfl, rfl⟩
  rw [show ofR (fun i => ([64] : List Int).getD i 0) 1 = none from by unfold ofR ofR; rfl, show ofE (fun i => ([64] : List Int).getD i 0) 1 = 3 from by unfold ofE ofR ofR; rfl]
  rw [show ((none : Option Nat).getD 0) = 0 from rfl]
  go_wp2_with fail
  refine (all_any _ _).mono ?_
  rintro e w2 ⟨rfl, rfl⟩
  rw [show allR 64 = 18446744073709551615 from by unfold allR; decide, show allE 64 = 0 from by unfold allE; decide]
  go_wp2_with fail
  refine (all_any _ _).mono ?_
  rintro e w2 ⟨rfl, rfl⟩
  rw [show allR 65 = 0 from by unfold allR; decide, show allE 65 = 3 from by unfold allE; decide]
  go_wp2_with fail
  refine (has_any 9 3 _ (by decide) (by decide)).mono ?_
  rintro e w2 ⟨rfl, rfl⟩
  rw [show hasB (9 : Int).toNat 3 = true from by unfold hasB; decide]
  go_wp2_with fail
  refine (has_any 9 (-1) _ (by decide) (by decide)).mono ?_
  rintro e w2 ⟨rfl, rfl⟩
  rw [show hasB (9 : Int).toNat (-1) = false from by unfold hasB; decide]
  go_wp2_with fail
  refine (has_any 18446744073709551615 64 _ (by decide) (by decide)).mono ?_
  rintro e w2 ⟨rfl, rfl⟩
  rw [show hasB (18446744073709551615 : Int).toNat 64 = false from by unfold hasB; decide]
  go_wp2_with fail
  refine (group_Members 9 _ (by decide) (HE.out.below HB1.out).1).mono ?_
  rintro e w3 ⟨v, rfl, hown, hb3⟩
  obtain ⟨ad, cp, rfl, hr, hln⟩ := own_intsL hown
  have HB3 := Lib.hid (below_step HB1.out hb3)
  have HR := keep hr
  clear hown hr hb3 hln
  rw [show bitsL 9 = [0, 3] from by unfold bitsL; decide +kernel] at HR ⊢
  have hb4 : Below w.heap.size w (w3.alloc (.cells #[.int .i64 0, .int .i64 3] 3)) := HB3.out.alloc HB3.out.size _
  have hr4 : IsInts .i64 (w3.alloc (.cells #[.int .i64 0, .int .i64 3] 3)) (w3.alloc (.cells #[.int .i64 0, .int .i64 3] 3)).heap.size ad 2 (fun i => [0, 3].getD i 0) := HR.out.below ((Below.refl _ _).alloc (Nat.le_refl _) _) (by simp)
  have k4 : Blk (w3.alloc (.cells #[.int .i64 0, .int .i64 3] 3)) w3.heap.size 3 #[.int .i64 0, .int .i64 3] := Blk.new _ _ _
  have HB4 := Lib.hid hb4
  have HK4 := Lib.hid k4
  have HR4 := keep hr4
  clear hb4 k4 hr4 HR
  rw [show ([0, 3] : List Int).length = 2 from rfl]
  go_wp2_with fail
  generalize w3.alloc (.cells #[.int .i64 0, .int .i64 3] 3) = w4 at HB4 HK4 HR4 ⊢
  refine (equal_ints _ _ 2 _ _ (fun i => [0, 3].getD i 0) _ (by decide) HR4.out (ints_of_blk' [0, 3] HK4.out)).mono ?_
  rintro e w5 ⟨rfl, hb5⟩
  have HB5 := Lib.hid (below_step HB4.out hb5)
  clear hb5 HK4 HR4
  go_wp2_with fail
  have hb6 : Below w.heap.size w (w5.alloc (.cells #[.int .u64 7, .int .u64 12] 22)) := HB5.out.alloc HB5.out.size _
  have k6 : Blk (w5.alloc (.cells #[.int .u64 7, .int .u64 12] 22)) w5.heap.size 22 #[.int .u64 7, .int .u64 12] := Blk.new _ _ _
  have HB6 := Lib.hid hb6
  have HK6 := Lib.hid k6
  clear hb6 k6
  generalize w5.alloc (.cells #[.int .u64 7, .int .u64 12] 22) = w6 at HB6 HK6 ⊢
  refine (meet_any _ 2 _ (fun i => [7, 12].getD i 0) _ _ (by decide) (nums_of_blk [7, 12] HK6.out) (fun i => by match i with | 0 => decide | 1 => decide | i + 2 => simp)).mono ?_
  rintro e w7 ⟨rfl, rfl⟩
  rw [show meetF (fun i => ([7, 12] : List Nat).getD i 0) 2 = 4 from by unfold meetF meetF meetF; decide]
  go_wp2_with fail
  refine (meet_any _ 0 _ (fun _ => 0) _ _ (by decide) nums_nil (fun i => by decide)).mono ?_
  rintro e w7 ⟨rfl, rfl⟩
  rw [show meetF (fun _ => 0) 0 = 18446744073709551615 from by unfold meetF; decide]
  go_wp2_with fail
  rw [exCells_eq]
  have hb7 : Below w.heap.size w (w6.alloc (.cells (exCells exT).toArray 42)) := HB6.out.alloc HB6.out.size _
  have k7 : Blk (w6.alloc (.cells (exCells exT).toArray 42)) w6.heap.size 42 (exCells exT).toArray := Blk.new _ _ _
  have HB7 := Lib.hid hb7
  have HK7 := Lib.hid k7
  clear hb7 k7
  generalize w6.alloc (.cells (exCells exT).toArray 42) = w7 at HB7 HK7 ⊢
  generalize w6.heap.size = b at HK7 ⊢
  go_loopw [9] (fun iv wr => ∃ k : Nat, k ≤ 9 ∧ iv = .int .i64 k ∧ Hid (Below w.heap.size w wr) ∧ Hid (Blk wr b 42 (exCells exT).toArray)) (fun iv _ => 9 - (intOf iv).toNat)
  case atStart => exact ⟨0, by omega, rfl, HB7, HK7⟩
  case round =>
    obtain ⟨k, hk, rfl, HB, HK⟩ := hrel
    by_cases hlt : (k : Int) < 9
    · obtain ⟨x, hx⟩ : ∃ x, exT[k]? = some x := ⟨_, List.getElem?_eq_getElem (by unfold exT; simp; omega)⟩
      have hxa := exCells_at exT k x hx
      have hxf := exT_fmt x (List.mem_of_getElem? hx)
      have c0 : wr.cell? ⟨b, k * 2, none⟩ = some (.int .u64 x.1) := by rw [HK.out.cell]; simpa using hxa.1
      have c1 : wr.cell? ⟨b, k * 2 + 1, none⟩ = some (.string (byt x.2)) := by rw [HK.out.cell]; simpa using hxa.2
      have lb := HK.out.lt
      obtain ⟨x1, x2⟩ := x
      simp only at hxf c0 c1
      have HXF := keep hxf
      have hx64 := hxf.2
      clear hx hxa hxf
      have HC0 := keep c0
      have HC1 := keep c1
      go_wp2_with fail
      refine (group_parse (byt x2) _ (by rw [byt_size, ← HXF.out.1]; have := fmtL_len x1; omega) (HE.out.below HB.out)).mono ?_
      rintro e w8 ⟨rfl, hb8⟩
      have hp : parseG (byt x2).data.toList = (x1, 0) := by rw [byt_data, ← HXF.out.1]; exact parseG_back x1 hx64
      rw [hp]
      have d0 := cell_step hb8 HC0.out
      have d1 := cell_step hb8 HC1.out
      have lb8 := Nat.lt_of_lt_of_le lb hb8.size
      have HB8 := Lib.hid (below_step HB.out hb8).drew
      have HK8 := Lib.hid (show Blk w8.drew b 42 (exCells exT).toArray from (HK.out.below hb8 lb).drew)
      clear hp hb8 c0 c1 HC0 HC1
      go_wp2_with fail
      go_region_held3 (fun w' => w'.cell? ⟨b, k * 2, none⟩ = some (.int .u64 x1) ∧ w'.cell? ⟨b, k * 2 + 1, none⟩ = some (.string (byt x2)) ∧ Hid (Below w.heap.size w w') ∧ Hid (Blk w' b 42 (exCells exT).toArray))
        (first
          | go_keep
          | (go_split_ands; exact ⟨cell_step hb (by assumption), cell_step hb (by assumption), Lib.hid (below_step (Hid.out (by assumption)) hb), Lib.hid (blk_step (Hid.out (by assumption)) hb)⟩))
        (first
          | (go_at_call 21; go_split_ands; refine (group_format x1 _ hx64 (HE.out.below (Hid.out (by assumption))).1).mono ?_; rintro e w' ⟨rfl, hb⟩; rw [HXF.out.1]))
      go_wp2_with fail
      go_roundw
      case rel => (go_split_ands; exact ⟨k + 1, by omega, by go_num, by assumption, by assumption⟩)
      case measure => simp [intOf]; omega
    · have hke : k = 9 := by omega
      subst hke
      clear hlt hk
      rw [show ((9 : Nat) : Int) = 9 from rfl]
      go_wp2_with fail
      rw [badCells_eq]
      have hb9 : Below w.heap.size w (wr.alloc (.cells (badT.map fun x => Value.string (byt x)).toArray 9)) := HB.out.alloc HB.out.size _
      have k9 : Blk (wr.alloc (.cells (badT.map fun x => Value.string (byt x)).toArray 9)) wr.heap.size 9 (badT.map fun x => Value.string (byt x)).toArray := Blk.new _ _ _
      have HB9 := Lib.hid hb9
      have HK9 := Lib.hid k9
      clear hb9 k9 HB HK
      generalize wr.alloc (.cells (badT.map fun x => Value.string (byt x)).toArray 9) = w9 at HB9 HK9 ⊢
      generalize wr.heap.size = b2 at HK9 ⊢
      clear wr
      go_loopw [130] (fun iv wr => ∃ k : Nat, k ≤ 17 ∧ iv = .int .i64 k ∧ Hid (Below w.heap.size w wr) ∧ Hid (Blk wr b2 9 (badT.map fun x => Value.string (byt x)).toArray)) (fun iv _ => 17 - (intOf iv).toNat)
      case atStart => exact ⟨0, by omega, rfl, HB9, HK9⟩
      case round =>
        obtain ⟨k, hk, rfl, HB, HK⟩ := hrel
        by_cases hlt : (k : Int) < 17
        · obtain ⟨x, hx⟩ : ∃ x, badT[k]? = some x := ⟨_, List.getElem?_eq_getElem (by unfold badT; simp; omega)⟩
          have hxf := badT_all x (List.mem_of_getElem? hx)
          have hxl := badT_len x (List.mem_of_getElem? hx)
          have c0 : wr.cell? ⟨b2, k, none⟩ = some (.string (byt x)) := by rw [HK.out.cell]; simp [hx]
          have lb := HK.out.lt
          have HXF := keep hxf
          clear hx hxf
          go_wp2_with fail
          refine (group_parse (byt x) _ (by rw [byt_size]; omega) (HE.out.below HB.out)).mono ?_
          rintro e w8 ⟨rfl, hb8⟩
          rw [byt_data, HXF.out]
          have HB8 := Lib.hid (below_step HB.out hb8)
          have HK8 := Lib.hid (HK.out.below hb8 lb)
          clear hb8 c0
          go_wp2_with fail
          go_roundw
          case rel => exact ⟨k + 1, by omega, by go_num, HB8, HK8⟩
          case measure => simp [intOf]; omega
        · have hke : k = 17 := by omega
          subst hke
          go_wp2_with fail
          go_ret
          exact ⟨rfl, HB.out⟩
end Go.Proofs.YtjjdlhbbkkkjnaaDoor
