/- Contracts of package rect's rest, Minus and Area, and of the reference's. -/
import Derived.Test.YtkdabfepggehiaaDoorRectW3
import Derived.Deep.AppendLies
import Derived.Deep.Onto
namespace Go.Proofs.YtkdabfepggehiaaDoor
open Go.RowKit

def restParts (a m : R4) : List R4 := [⟨a.c1, a.r1, a.c2, m.r1 - 1⟩, ⟨a.c1, m.r1, m.c1 - 1, m.r2⟩, ⟨m.c2 + 1, m.r1, a.c2, m.r2⟩, ⟨a.c1, m.r2 + 1, a.c2, a.r2⟩]
def fine (r : R4) : Bool := decide (r.c1 ≤ r.c2) && decide (r.r1 ≤ r.r2)
def restM (a m : R4) : List R4 := (restParts a m).filter fine
def restL (a b : R4) : List R4 := if meets a b = true then restM a (meetS a b) else [a]
def areaN (r : R4) : Int := (r.c2 - r.c1 + 1) * (r.r2 - r.r1 + 1)
def areaS (r : R4) : Int × Int := if checkB r = true then (areaN r, 0) else (0, 3)
theorem areaS_no {r : R4} (h : checkB r = false) : areaS r = (0, 3) := by unfold areaS; rw [if_neg (by simp [h])]
theorem areaS_yes {r : R4} (h : checkB r = true) : areaS r = (areaN r, 0) := by unfold areaS; rw [if_pos h]
theorem area_le {r : R4} (h : checkB r = true) : 1 ≤ areaN r ∧ areaN r ≤ 1048576 := by
  have h' := (checkB_iff r).1 h
  unfold areaN
  have h1 : 1 ≤ r.c2 - r.c1 + 1 ∧ r.c2 - r.c1 + 1 ≤ 1024 := by omega
  have h2 : 1 ≤ r.r2 - r.r1 + 1 ∧ r.r2 - r.r1 + 1 ≤ 1024 := by omega
  generalize r.c2 - r.c1 + 1 = x at *
  generalize r.r2 - r.r1 + 1 = y at *
  have h3 : 1 * 1 ≤ x * y := Int.mul_le_mul h1.1 h2.1 (by omega) (by omega)
  have h4 : x * y ≤ 1024 * 1024 := Int.mul_le_mul h1.2 h2.2 (by omega) (by omega)
  omega
theorem info_rect : (Tryd.prog.info? 38).map (fun i => (i.zero, i.size, i.bytes)) = some (some (.agg #[.int .i64 0, .int .i64 0, .int .i64 0, .int .i64 0]), 4, 32) := by kernel_rfl

set_option maxRecDepth 100000 in
theorem rect_Area (a1 a2 a3 a4 : Int) (w : World) :
    Calls Tryd.prog 52 #[.agg #[.int .i64 a1, .int .i64 a2, .int .i64 a3, .int .i64 a4]] w fun e w' => e = .returned (.tuple #[.int .i64 (areaS ⟨a1, a2, a3, a4⟩).1, .int .i64 (areaS ⟨a1, a2, a3, a4⟩).2]) ∧ Below w.heap.size w w' := by
  have hb0 : Below w.heap.size w (w.alloc (.cells #[.int .i64 a1, .int .i64 a2, .int .i64 a3, .int .i64 a4] 38)) := (Below.refl _ _).alloc (Nat.le_refl _) _
  have k0 := Blk.new w 38 #[.int .i64 a1, .int .i64 a2, .int .i64 a3, .int .i64 a4]
  have hz0 : w.heap.size < (w.alloc (.cells #[.int .i64 a1, .int .i64 a2, .int .i64 a3, .int .i64 a4] 38)).heap.size := by simp
  have HB0 := Lib.hid hb0
  have HK := Lib.hid k0
  clear hb0 k0
  go_enter Tryd.func52, Tryd.ntmps52
  go_wp2_with fail
  generalize (w.alloc (.cells #[.int .i64 a1, .int .i64 a2, .int .i64 a3, .int .i64 a4] 38)) = W0 at HB0 HK hz0 ⊢
  refine (rect_Check _ _ _ _ _).mono ?_
  rintro e w1 ⟨rfl, hb1⟩
  have k1 := HK.out.below hb1 hz0
  have c0 := k1.cell 0
  have c1 := k1.cell 1
  have c2 := k1.cell 2
  have c3 := k1.cell 3
  simp only [List.getElem?_toArray, List.getElem?_cons_zero, List.getElem?_cons_succ] at c0 c1 c2 c3
  have HB1 := Lib.hid (below_step HB0.out hb1)
  clear hb1 k1 HB0 HK hz0
  have hv1 : checkE ⟨a1, a2, a3, a4⟩ = if checkB ⟨a1, a2, a3, a4⟩ = true then 0 else 3 := rfl
  cases ha : checkB ⟨a1, a2, a3, a4⟩
  · rw [ha] at hv1
    rw [hv1]
    have HA := Lib.hid (areaS_no ha)
    clear ha hv1
    go_wp2_with fail
    refine bodyPost_ret (v := .tuple #[.int .i64 0, .int .i64 3]) (by simp [results, Tryd.results52, go_sem]) rfl ⟨by rw [HA.out], HB1.out⟩
  · rw [ha] at hv1
    rw [hv1]
    have HA := Lib.hid (areaS_yes ha)
    have hr := (checkB_iff _).1 ha
    have hl := area_le ha
    unfold areaN at hl
    simp only [] at hr hl
    obtain ⟨x1, x2, x3, x4, x5, x6⟩ := hr
    obtain ⟨x7, x8⟩ := hl
    clear ha hv1
    go_wp2_with fail
    refine bodyPost_ret (v := .tuple #[.int .i64 ((a3 - a1 + 1) * (a4 - a2 + 1)), .int .i64 0]) (by simp [results, Tryd.results52, go_sem]) rfl ⟨by rw [HA.out]; rfl, HB1.out⟩

set_option maxRecDepth 100000 in
set_option maxHeartbeats 4000000 in
theorem rect_rest (a1 a2 a3 a4 b1 b2 b3 b4 : Int) (w : World) (ha : checkB ⟨a1, a2, a3, a4⟩ = true) :
    Calls Tryd.prog 70 #[.agg #[.int .i64 a1, .int .i64 a2, .int .i64 a3, .int .i64 a4], .agg #[.int .i64 b1, .int .i64 b2, .int .i64 b3, .int .i64 b4]] w fun e w' => ∃ v, e = .returned v ∧ w'.ownsRow w.heap.size 38 4 v (restL ⟨a1, a2, a3, a4⟩ ⟨b1, b2, b3, b4⟩).length (rcells (restL ⟨a1, a2, a3, a4⟩ ⟨b1, b2, b3, b4⟩)) ∧ Below w.heap.size w w' := by
  have hA := (checkB_iff _).1 ha
  simp only [] at hA
  clear ha
  generalize hM : meetS ⟨a1, a2, a3, a4⟩ ⟨b1, b2, b3, b4⟩ = M
  have hM2 : meets ⟨a1, a2, a3, a4⟩ ⟨b1, b2, b3, b4⟩ = true → checkB M = true := by
    intro h
    rw [← hM, meetS_yes h]
    unfold meets at h
    simp only [Bool.and_eq_true] at h
    exact h.2
  have hrest : restL ⟨a1, a2, a3, a4⟩ ⟨b1, b2, b3, b4⟩ = if meets ⟨a1, a2, a3, a4⟩ ⟨b1, b2, b3, b4⟩ = true then restM ⟨a1, a2, a3, a4⟩ M else [⟨a1, a2, a3, a4⟩] := by rw [← hM]; rfl
  generalize restL ⟨a1, a2, a3, a4⟩ ⟨b1, b2, b3, b4⟩ = L at hrest ⊢
  obtain ⟨m1, m2, m3, m4⟩ := M
  have HM := Lib.hid hM
  have HR := Lib.hid hrest
  have HM2 := Lib.hid hM2
  have hb0 : Below w.heap.size w ((w.alloc (.cells #[.int .i64 a1, .int .i64 a2, .int .i64 a3, .int .i64 a4] 38)).alloc (.cells #[.int .i64 b1, .int .i64 b2, .int .i64 b3, .int .i64 b4] 38)) := (((Below.refl _ _).alloc (Nat.le_refl _) _).alloc (by simp) _)
  have k0 := (Blk.new w 38 #[.int .i64 a1, .int .i64 a2, .int .i64 a3, .int .i64 a4]).alloc (.cells #[.int .i64 b1, .int .i64 b2, .int .i64 b3, .int .i64 b4] 38)
  have hz0 : w.heap.size + 1 < ((w.alloc (.cells #[.int .i64 a1, .int .i64 a2, .int .i64 a3, .int .i64 a4] 38)).alloc (.cells #[.int .i64 b1, .int .i64 b2, .int .i64 b3, .int .i64 b4] 38)).heap.size := by simp
  have HB0 := Lib.hid hb0
  have HK := Lib.hid k0
  clear hb0 k0 hM hrest hM2
  go_enter Tryd.func70, Tryd.ntmps70
  go_wp2_with fail
  generalize ((w.alloc (.cells #[.int .i64 a1, .int .i64 a2, .int .i64 a3, .int .i64 a4] 38)).alloc (.cells #[.int .i64 b1, .int .i64 b2, .int .i64 b3, .int .i64 b4] 38)) = W0 at HB0 HK hz0 ⊢
  refine (rect_Meet _ _ _ _ _ _ _ _ _).mono ?_
  rintro e w1 ⟨rfl, hb1⟩
  rw [HM.out]
  have k1 := HK.out.below hb1 (by omega)
  have c0 := k1.cell 0
  have c1 := k1.cell 1
  have c2 := k1.cell 2
  have c3 := k1.cell 3
  simp only [List.getElem?_toArray, List.getElem?_cons_zero, List.getElem?_cons_succ] at c0 c1 c2 c3
  have HK1 := Lib.hid k1
  have HB1 := Lib.hid (below_step HB0.out hb1)
  have hz1 : w.heap.size < w1.heap.size := by have := hb1.size; omega
  clear hb1 k1 HB0 HK hz0 HM
  cases hv : meets ⟨a1, a2, a3, a4⟩ ⟨b1, b2, b3, b4⟩
  · have HL : Hid (L = [⟨a1, a2, a3, a4⟩]) := by show _ = _; rw [HR.out, hv]; rfl
    clear hv HR HM2
    go_wp2_with fail
    try simp only [Exit.inBlock, Exit.then]
    refine bodyPost_ret (results_tmp rfl _ _ _) rfl ⟨_, rfl, ?_, (HB1.out.alloc HB1.out.size _).alloc (by simp; omega) _⟩
    rw [HL.out]
    have := World.ownsRow_lit (base := w.heap.size) (size := 4) (e := 38) (w1.alloc (.cells #[.int .i64 m1, .int .i64 m2, .int .i64 m3, .int .i64 m4] 38)) #[.int .i64 a1, .int .i64 a2, .int .i64 a3, .int .i64 a4] 1 (by simp; omega) (by decide) rfl
    simpa [rcells] using this
  · have HL : Hid (L = restM ⟨a1, a2, a3, a4⟩ ⟨m1, m2, m3, m4⟩) := by show _ = _; rw [HR.out, hv]; rfl
    have hB := (checkB_iff _).1 (HM2.out hv)
    simp only [] at hB
    clear hv HR HM2
    go_wp2_with fail
    have hb2 : Below w.heap.size w ((w1.alloc (.cells #[.int .i64 m1, .int .i64 m2, .int .i64 m3, .int .i64 m4] 38)).alloc (.cells #[.int .i64 a1, .int .i64 a2, .int .i64 a3, .int .i64 (m2 - 1), .int .i64 a1, .int .i64 m2, .int .i64 (m1 - 1), .int .i64 m4, .int .i64 (m3 + 1), .int .i64 m2, .int .i64 a3, .int .i64 m4, .int .i64 a1, .int .i64 (m4 + 1), .int .i64 a3, .int .i64 a4] 38)) := (HB1.out.alloc HB1.out.size _).alloc (by simp; omega) _
    have kl : Blk ((w1.alloc (.cells #[.int .i64 m1, .int .i64 m2, .int .i64 m3, .int .i64 m4] 38)).alloc (.cells #[.int .i64 a1, .int .i64 a2, .int .i64 a3, .int .i64 (m2 - 1), .int .i64 a1, .int .i64 m2, .int .i64 (m1 - 1), .int .i64 m4, .int .i64 (m3 + 1), .int .i64 m2, .int .i64 a3, .int .i64 m4, .int .i64 a1, .int .i64 (m4 + 1), .int .i64 a3, .int .i64 a4] 38)) (w1.heap.size + 1) 38 #[.int .i64 a1, .int .i64 a2, .int .i64 a3, .int .i64 (m2 - 1), .int .i64 a1, .int .i64 m2, .int .i64 (m1 - 1), .int .i64 m4, .int .i64 (m3 + 1), .int .i64 m2, .int .i64 a3, .int .i64 m4, .int .i64 a1, .int .i64 (m4 + 1), .int .i64 a3, .int .i64 a4] := by
      have := Blk.new (w1.alloc (.cells #[.int .i64 m1, .int .i64 m2, .int .i64 m3, .int .i64 m4] 38)) 38 #[.int .i64 a1, .int .i64 a2, .int .i64 a3, .int .i64 (m2 - 1), .int .i64 a1, .int .i64 m2, .int .i64 (m1 - 1), .int .i64 m4, .int .i64 (m3 + 1), .int .i64 m2, .int .i64 a3, .int .i64 m4, .int .i64 a1, .int .i64 (m4 + 1), .int .i64 a3, .int .i64 a4]
      simpa using this
    have hl : IsRects ((w1.alloc (.cells #[.int .i64 m1, .int .i64 m2, .int .i64 m3, .int .i64 m4] 38)).alloc (.cells #[.int .i64 a1, .int .i64 a2, .int .i64 a3, .int .i64 (m2 - 1), .int .i64 a1, .int .i64 m2, .int .i64 (m1 - 1), .int .i64 m4, .int .i64 (m3 + 1), .int .i64 m2, .int .i64 a3, .int .i64 m4, .int .i64 a1, .int .i64 (m4 + 1), .int .i64 a3, .int .i64 a4] 38)) ((w1.alloc (.cells #[.int .i64 m1, .int .i64 m2, .int .i64 m3, .int .i64 m4] 38)).alloc (.cells #[.int .i64 a1, .int .i64 a2, .int .i64 a3, .int .i64 (m2 - 1), .int .i64 a1, .int .i64 m2, .int .i64 (m1 - 1), .int .i64 m4, .int .i64 (m3 + 1), .int .i64 m2, .int .i64 a3, .int .i64 m4, .int .i64 a1, .int .i64 (m4 + 1), .int .i64 a3, .int .i64 a4] 38)).heap.size (some ⟨w1.heap.size + 1, 0, none⟩) 4 (fun i => (restParts ⟨a1, a2, a3, a4⟩ ⟨m1, m2, m3, m4⟩).getD i R4.zero) := rects_of_blk _ kl (by
      intro i j hi hj
      have := rcells_at (restParts ⟨a1, a2, a3, a4⟩ ⟨m1, m2, m3, m4⟩) R4.zero i j hi hj
      simpa [restParts, rcells] using this)
    have hz2 : w.heap.size ≤ ((w1.alloc (.cells #[.int .i64 m1, .int .i64 m2, .int .i64 m3, .int .i64 m4] 38)).alloc (.cells #[.int .i64 a1, .int .i64 a2, .int .i64 a3, .int .i64 (m2 - 1), .int .i64 a1, .int .i64 m2, .int .i64 (m1 - 1), .int .i64 m4, .int .i64 (m3 + 1), .int .i64 m2, .int .i64 a3, .int .i64 m4, .int .i64 a1, .int .i64 (m4 + 1), .int .i64 a3, .int .i64 a4] 38)).heap.size := hb2.size
    have HB2 := Lib.hid hb2
    have HLR := Lib.hid hl
    clear hb2 kl hl
    generalize hPL : restParts ⟨a1, a2, a3, a4⟩ ⟨m1, m2, m3, m4⟩ = PL at HLR
    have hPL4 : PL.length = 4 := by rw [← hPL]; rfl
    have hLP : L = PL.filter fine := by rw [HL.out, ← hPL]; rfl
    have HLP := Lib.hid hLP
    have HP4 := Lib.hid hPL4
    clear hLP hPL4 hPL HL HK1 hz1 HB1
    generalize hW : ((w1.alloc (.cells #[.int .i64 m1, .int .i64 m2, .int .i64 m3, .int .i64 m4] 38)).alloc (.cells #[.int .i64 a1, .int .i64 a2, .int .i64 a3, .int .i64 (m2 - 1), .int .i64 a1, .int .i64 m2, .int .i64 (m1 - 1), .int .i64 m4, .int .i64 (m3 + 1), .int .i64 m2, .int .i64 a3, .int .i64 m4, .int .i64 a1, .int .i64 (m4 + 1), .int .i64 a3, .int .i64 a4] 38)) = W1 at HB2 HLR hz2 ⊢
    have hsz1 : w1.heap.size + 1 < W1.heap.size := by rw [← hW]; simp
    clear hW c0 c1 c2 c3
    obtain ⟨i0, hi, hz0, hz1, hzb⟩ := info_parts info_rect
    go_loopw [7, 62] (fun ov iv wr => ∃ k : Nat, k ≤ 4 ∧ iv = .int .i64 k ∧ Hid (wr.ownsRow W1.heap.size 38 4 ov ((PL.take k).filter fine).length (rcells ((PL.take k).filter fine))) ∧ Hid (Below W1.heap.size W1 wr)) (fun _ iv _ => 4 - (intOf iv).toNat)
    case atStart => exact ⟨0, by omega, rfl, by show World.ownsRow _ _ _ _ _ _ _; simpa [rcells] using World.ownsRow_nil W1 W1.heap.size 38 4, Below.refl _ _⟩
    case round =>
      obtain ⟨k, hk, rfl, H1, H2⟩ := hrel
      by_cases hlt : k < 4
      · obtain ⟨b, off, hbo, hB, hc⟩ := HLR.out.spot (by omega)
        obtain ⟨rfl, rfl⟩ : w1.heap.size + 1 = b ∧ 0 = off := by simpa using hbo
        obtain ⟨c0', c1', c2', c3'⟩ := hc k hlt
        have c0 := (H2.out.cell (p := ⟨w1.heap.size + 1, 0 + k * 4, none⟩) hsz1).trans c0'
        have c1 := (H2.out.cell (p := ⟨w1.heap.size + 1, 0 + k * 4 + 1, none⟩) hsz1).trans c1'
        have c2 := (H2.out.cell (p := ⟨w1.heap.size + 1, 0 + k * 4 + 2, none⟩) hsz1).trans c2'
        have c3 := (H2.out.cell (p := ⟨w1.heap.size + 1, 0 + k * 4 + 3, none⟩) hsz1).trans c3'
        clear c0' c1' c2' c3' hc hbo
        simp only [Nat.zero_add] at c0 c1 c2 c3
        have htk : PL.take (k + 1) = PL.take k ++ [PL.getD k R4.zero] := by
          rw [List.take_succ_eq_append_getElem (by rw [HP4.out]; exact hlt), List.getD_eq_getElem?_getD, List.getElem?_eq_getElem (by rw [HP4.out]; exact hlt), Option.getD_some]
        generalize PL.getD k R4.zero = r at c0 c1 c2 c3 htk
        obtain ⟨x1, y1, x2, y2⟩ := r
        simp only [] at c0 c1 c2 c3
        have HTK := Lib.hid htk
        clear htk
        rcases (show (x1 ≤ x2 ∧ y1 ≤ y2) ∨ ¬ x1 ≤ x2 ∨ (x1 ≤ x2 ∧ ¬ y1 ≤ y2) from by omega) with ⟨g1, g2⟩ | g1 | ⟨g1, g2⟩
        · have hf : (PL.take (k + 1)).filter fine = (PL.take k).filter fine ++ [⟨x1, y1, x2, y2⟩] := by rw [HTK.out, List.filter_append]; simp [fine, g1, g2]
          have HF := Lib.hid hf
          clear hf
          have hlen : ((PL.take k).filter fine).length ≤ 4 := Nat.le_trans (List.length_filter_le _ _) (by simp; omega)
          generalize hPF : (PL.take k).filter fine = PF at H1 hlen HF
          have HPF := Lib.hid hPF
          clear hPF
          go_wp2_with (at_builtin; refine wpList_append_lies _ rfl _ _ _ rfl W1.heap.size 38 i0 _ 4 32 Tryd.underlying57 hi hz0 hz1 hzb rfl (by omega) _ _ _ rfl ((H1.out.alloc _).alloc _) ⟨wr.heap.size + 1, 0, none⟩ 1 1 [.int .i64 x1, .int .i64 y1, .int .i64 x2, .int .i64 y2] rfl rfl (World.news_of_block (cs := #[.int .i64 x1, .int .i64 y1, .int .i64 x2, .int .i64 y2]) (t := 38) (fr := (0, 0)) (by rw [← World.size_alloc wr (.cells #[.int .i64 x1, .int .i64 y1, .int .i64 x2, .int .i64 y2] 38)]; exact heap_alloc_new _ _)) (by intro u hu; simp at hu; rcases hu with rfl | rfl | rfl | rfl <;> rfl) (by omega) (by unfold maxLen; omega) (by omega) (by have := H2.out.size; simp; omega) _ rfl ?_; intro g cap w3 hown3 hgrow3 hat3 hlt3)
          refine ⟨⟨k + 1, by omega, by go_num, ?_, ?_⟩, by simp [intOf] <;> omega⟩
          · rw [HF.out]
            show World.ownsRow _ _ _ _ _ _ _
            simpa [rcells] using hown3
          · exact Below.grown (B := W1.heap.size) ((H2.out.alloc H2.out.size _).alloc (by have := H2.out.size; simp; omega) _) hgrow3 (by have := H2.out.size; simp; omega) (fun k hk => (H1.out.lt k hk).1)
        · have hf : (PL.take (k + 1)).filter fine = (PL.take k).filter fine := by rw [HTK.out, List.filter_append]; simp [fine, g1]
          have HF := Lib.hid hf
          clear hf
          go_wp2_with fail
          go_roundw
          case rel => exact ⟨k + 1, by omega, by go_num, by rw [HF.out]; exact H1.out.alloc _, (H2.out.alloc H2.out.size _)⟩
          case measure => simp [intOf]; omega
        · have hf : (PL.take (k + 1)).filter fine = (PL.take k).filter fine := by rw [HTK.out, List.filter_append]; simp [fine, g2]
          have HF := Lib.hid hf
          clear hf
          go_wp2_with fail
          go_roundw
          case rel => exact ⟨k + 1, by omega, by go_num, by rw [HF.out]; exact H1.out.alloc _, (H2.out.alloc H2.out.size _)⟩
          case measure => simp [intOf]; omega
      · have hke : k = 4 := by omega
        subst hke
        go_wp2_with fail
        go_ret
        refine ⟨_, rfl, ?_, HB2.out.trans (H2.out.mono hz2)⟩
        rw [HLP.out]
        have := H1.out
        rw [List.take_of_length_le (by rw [HP4.out]; omega)] at this
        exact this.mono hz2
end Go.Proofs.YtkdabfepggehiaaDoor
