/- Contracts of package addr's reader: read, its method add, Parse and Column. -/
import Derived.Test.YtlngjiibbcgkmaaDoorKit
import Derived.Test.YtlngjiibbcgkmaaDoorAddrP
import Derived.Test.YtlngjiibbcgkmaaDoorValid
import Derived.Lib.SmallJoins
import Derived.Shelf.Strings.Cut
import Derived.Shelf.Strings.Search2
import Derived.Shelf.Strconv.Itoa3
import Derived.Lib.AppendIntMem
import Derived.BigRegion
namespace Go.Proofs.YtlngjiibbcgkmaaDoor
open Go.RowKit

def pcCells (p : Pc) : Array Value := #[.int .i64 p.m0, .int .i64 p.m1, .int .i64 p.v0, .int .i64 p.v1, .bool p.ok]

theorem letV_cap (c : Nat) (hc : 65 ≤ c) (hc' : c ≤ 90) : letV (UInt8.ofNat c) = c - 64 := by
  have : (UInt8.ofNat c).toNat = c := by rw [UInt8.toNat_ofNat']; omega
  unfold letV; rw [this, if_pos ⟨hc, hc'⟩]
theorem digN (c : Nat) (hc : 48 ≤ c) (hc' : c ≤ 57) : (UInt8.ofNat c).toNat = c := by rw [UInt8.toNat_ofNat']; omega
theorem pc_eq (p : Pc) (x0 x1 x2 x3 : Int) (x4 : Bool) (h0 : x0 = p.m0) (h1 : x1 = p.m1) (h2 : x2 = p.v0) (h3 : x3 = p.v1) (h4 : x4 = p.ok) : (#[.int .i64 x0, .int .i64 x1, .int .i64 x2, .int .i64 x3, .bool x4] : Array Value) = pcCells p := by
  subst h0 h1 h2 h3 h4; rfl

theorem grown3 (w : World) (b i j k : Nat) (x y z : Value) : w.grownBy ((((w.setCell ⟨b, i, none⟩ x).setCell ⟨b, j, none⟩ y).setCell ⟨b, k, none⟩ z).drew.drew) (some b) :=
  have h1 : w.grownBy (w.setCell ⟨b, i, none⟩ x) (some b) := only_setCell (p := ⟨b, i, none⟩) (World.grownBy.refl w _) (.inl rfl) x
  have h2 := only_setCell (p := ⟨b, j, none⟩) h1 (.inl rfl) y
  have h3 := only_setCell (p := ⟨b, k, none⟩) h2 (.inl rfl) z
  only_drew (only_drew h3)

set_option maxRecDepth 100000 in
set_option maxHeartbeats 1000000 in
theorem add_letter (b : Nat) (p : Pc) (c : Nat) (w : World) (hb : Blk w b 95 (pcCells p)) (h0 : p.m0 < 4611686018427387904) (h1 : p.m1 < 4611686018427387904) (h2 : p.v0 ≤ 1025) (hc : 65 ≤ c) (hc' : c ≤ 90) :
    Calls Tryd.prog 68 #[.pointer (some ⟨b, 0, none⟩), .int .u8 c, .bool true] w fun e w' => e = .returned (.tuple #[]) ∧ Blk w' b 95 (pcCells (p.letter (UInt8.ofNat c))) ∧ w.grownBy w' (some b) := by
  have hv := letV_cap c hc hc'
  obtain ⟨m0, m1, v0, v1, ok⟩ := p
  have HV := Lib.hid hv
  clear hv
  simp only [] at h0 h1 h2
  have c0 : w.cell? ⟨b, 0, none⟩ = some (.int .i64 m0) := hb.cell 0
  have c1 : w.cell? ⟨b, 1, none⟩ = some (.int .i64 m1) := hb.cell 1
  have c2 : w.cell? ⟨b, 2, none⟩ = some (.int .i64 v0) := hb.cell 2
  have c4 : w.cell? ⟨b, 4, none⟩ = some (.bool ok) := hb.cell 4
  have f0 := hb.frozen 0
  have f2 := hb.frozen 2
  have f4 := hb.frozen 4
  have H := Lib.hid hb
  clear hb
  cases ok
  · go_enter Tryd.func68, Tryd.ntmps68
    go_wp2
    go_region
    go_wp2
    go_region
    go_wp2
    refine bodyPost_ret (results_none rfl _ _ _) rfl ⟨rfl, ?_, ?_⟩
    · have h := (((H.out.set_ 4 (.bool false)).set_ 0 (.int .i64 ((m0 : Int) + 1))).set_ 2 (.int .i64 (min (26 * (v0 : Int) + ((c : Int) - 65) + 1) 1025))).drew.drew
      rw [← pc_eq (Pc.letter ⟨m0, m1, v0, v1, false⟩ (UInt8.ofNat c)) ((m0 : Int) + 1) m1 (min (26 * (v0 : Int) + ((c : Int) - 65) + 1) 1025) v1 false rfl rfl (by simp only [Pc.letter, stepC, HV.out]; omega) rfl rfl]
      exact h
    · exact grown3 _ _ _ _ _ _ _ _
  · by_cases hm : (m1 : Int) = 0
    · obtain rfl : m1 = 0 := by omega
      clear hm
      go_enter Tryd.func68, Tryd.ntmps68
      go_wp2
      go_region
      go_wp2
      go_region
      go_wp2
      refine bodyPost_ret (results_none rfl _ _ _) rfl ⟨rfl, ?_, ?_⟩
      · have h := (((H.out.set_ 4 (.bool true)).set_ 0 (.int .i64 ((m0 : Int) + 1))).set_ 2 (.int .i64 (min (26 * (v0 : Int) + ((c : Int) - 65) + 1) 1025))).drew.drew
        rw [← pc_eq (Pc.letter ⟨m0, 0, v0, v1, true⟩ (UInt8.ofNat c)) ((m0 : Int) + 1) 0 (min (26 * (v0 : Int) + ((c : Int) - 65) + 1) 1025) v1 true rfl rfl (by simp only [Pc.letter, stepC, HV.out]; omega) rfl rfl]
        exact h
      · exact grown3 _ _ _ _ _ _ _ _
    · have hm' : ((m1 : Int) == 0) = false := by simpa using hm
      have HM := Lib.hid hm
      clear hm
      go_enter Tryd.func68, Tryd.ntmps68
      go_wp2
      go_region
      go_wp2
      go_region
      go_wp2
      refine bodyPost_ret (results_none rfl _ _ _) rfl ⟨rfl, ?_, ?_⟩
      · have h := (((H.out.set_ 4 (.bool false)).set_ 0 (.int .i64 ((m0 : Int) + 1))).set_ 2 (.int .i64 (min (26 * (v0 : Int) + ((c : Int) - 65) + 1) 1025))).drew.drew
        rw [← pc_eq (Pc.letter ⟨m0, m1, v0, v1, true⟩ (UInt8.ofNat c)) ((m0 : Int) + 1) m1 (min (26 * (v0 : Int) + ((c : Int) - 65) + 1) 1025) v1 false rfl rfl (by simp only [Pc.letter, stepC, HV.out]; omega) rfl (by have := HM.out; simp [Pc.letter]; omega)]
        exact h
      · exact grown3 _ _ _ _ _ _ _ _

set_option maxRecDepth 100000 in
set_option maxHeartbeats 1000000 in
theorem add_digit (b : Nat) (p : Pc) (c : Nat) (w : World) (hb : Blk w b 95 (pcCells p)) (h0 : p.m0 < 4611686018427387904) (h1 : p.m1 < 4611686018427387904) (h2 : p.v1 ≤ 1025) (hc : 48 ≤ c) (hc' : c ≤ 57) :
    Calls Tryd.prog 68 #[.pointer (some ⟨b, 0, none⟩), .int .u8 c, .bool false] w fun e w' => e = .returned (.tuple #[]) ∧ Blk w' b 95 (pcCells (p.digit (UInt8.ofNat c))) ∧ w.grownBy w' (some b) := by
  have hv := digN c hc hc'
  obtain ⟨m0, m1, v0, v1, ok⟩ := p
  have HV := Lib.hid hv
  clear hv
  simp only [] at h0 h1 h2
  have c1 : w.cell? ⟨b, 1, none⟩ = some (.int .i64 m1) := hb.cell 1
  have c3 : w.cell? ⟨b, 3, none⟩ = some (.int .i64 v1) := hb.cell 3
  have c4 : w.cell? ⟨b, 4, none⟩ = some (.bool ok) := hb.cell 4
  have f1 := hb.frozen 1
  have f3 := hb.frozen 3
  have f4 := hb.frozen 4
  have H := Lib.hid hb
  clear hb
  have fin : ∀ (o x : Bool), x = (o && ((UInt8.ofNat c) != 48 || decide (0 < m1))) → Blk w b 95 (pcCells ⟨m0, m1, v0, v1, o⟩) → 
      Blk ((((w.setCell ⟨b, 4, none⟩ (.bool x)).setCell ⟨b, 1, none⟩ (.int .i64 ((m1 : Int) + 1))).setCell ⟨b, 3, none⟩ (.int .i64 (min (10 * (v1 : Int) + ((c : Int) - 48)) 1025))).drew.drew) b 95 (pcCells (Pc.digit ⟨m0, m1, v0, v1, o⟩ (UInt8.ofNat c))) := by
    intro o x hx hB
    have h := (((hB.set_ 4 (.bool x)).set_ 1 (.int .i64 ((m1 : Int) + 1))).set_ 3 (.int .i64 (min (10 * (v1 : Int) + ((c : Int) - 48)) 1025))).drew.drew
    rw [← pc_eq (Pc.digit ⟨m0, m1, v0, v1, o⟩ (UInt8.ofNat c)) m0 ((m1 : Int) + 1) v0 (min (10 * (v1 : Int) + ((c : Int) - 48)) 1025) x rfl rfl rfl (by simp only [Pc.digit, stepR, HV.out]; omega) hx]
    exact h
  have h48 : ((UInt8.ofNat c) != 48) = decide (c ≠ 48) := by
    rw [Bool.eq_iff_iff, bne_iff_ne, decide_eq_true_eq, ne_eq, ← UInt8.toNat_inj, HV.out]; rfl
  have FIN := Lib.hid fin
  have H48 := Lib.hid h48
  clear fin h48
  cases ok
  · go_enter Tryd.func68, Tryd.ntmps68
    go_wp2
    go_region
    go_wp2
    go_region
    go_wp2
    go_end0
    exact ⟨rfl, FIN.out false false rfl H.out, grown3 _ _ _ _ _ _ _ _⟩
  · by_cases hcc : c = 48
    · subst hcc
      by_cases hm : 0 < m1
      · go_enter Tryd.func68, Tryd.ntmps68
        go_wp2
        go_region
        go_wp2
        go_region
        go_wp2
        go_end0
        exact ⟨rfl, FIN.out true true (by simp [hm]) H.out, grown3 _ _ _ _ _ _ _ _⟩
      · obtain rfl : m1 = 0 := by omega
        go_enter Tryd.func68, Tryd.ntmps68
        go_wp2
        go_region
        go_wp2
        go_region
        go_wp2
        go_end0
        exact ⟨rfl, FIN.out true false (by simp) H.out, grown3 _ _ _ _ _ _ _ _⟩
    · have hcb : ((c : Int) == 48) = false := by simp; omega
      have hcb' : ((c : Int) != 48) = true := by simp; omega
      have HC := Lib.hid hcc
      clear hcc
      go_enter Tryd.func68, Tryd.ntmps68
      go_wp2
      go_region
      go_wp2
      go_region
      go_wp2
      go_end0
      exact ⟨rfl, FIN.out true true (by rw [H48.out]; simp [HC.out]) H.out, grown3 _ _ _ _ _ _ _ _⟩
end Go.Proofs.YtlngjiibbcgkmaaDoor
