/- Contracts of package addr's reader: read, Parse and Column. -/
import Derived.Test.YtlngjiibbcgkmaaDoorAddP4
namespace Go.Proofs.YtlngjiibbcgkmaaDoor
open Go.RowKit

theorem take_snoc8 (s : ByteArray) (k : Nat) (h : k < s.size) : s.data.toList.take (k + 1) = s.data.toList.take k ++ [s[k]] := by
  rw [List.take_succ_eq_append_getElem (by simpa using h)]; rfl
theorem readS_snoc (l : List UInt8) (b : UInt8) : readS (l ++ [b]) = (readS l).step b := by simp [readS]
theorem readS_m (l : List UInt8) : (readS l).m0 ≤ l.length ∧ (readS l).m1 ≤ l.length ∧ (readS l).v0 ≤ 1025 ∧ (readS l).v1 ≤ 1025 := by
  have key : ∀ (l : List UInt8) (p : Pc), p.v0 ≤ 1025 → p.v1 ≤ 1025 → (l.foldl Pc.step p).m0 ≤ p.m0 + l.length ∧ (l.foldl Pc.step p).m1 ≤ p.m1 + l.length ∧ (l.foldl Pc.step p).v0 ≤ 1025 ∧ (l.foldl Pc.step p).v1 ≤ 1025 := by
    intro l
    induction l with
    | nil => intro p h1 h2; simp [h1, h2]
    | cons b l ih =>
      intro p h1 h2
      have h3 : (p.step b).v0 ≤ 1025 ∧ (p.step b).v1 ≤ 1025 ∧ (p.step b).m0 ≤ p.m0 + 1 ∧ (p.step b).m1 ≤ p.m1 + 1 := by
        unfold Pc.step
        split
        · simp only [Pc.letter]; exact ⟨Nat.min_le_right _ _, h2, by omega, by omega⟩
        · split
          · simp only [Pc.digit]; exact ⟨h1, Nat.min_le_right _ _, by omega, by omega⟩
          · simp only [Pc.other]; exact ⟨h1, h2, by omega, by omega⟩
      have := ih (p.step b) h3.1 h3.2.1
      simp only [List.foldl_cons, List.length_cons]
      omega
  have := key l .start (by simp [Pc.start]) (by simp [Pc.start])
  simpa [readS, Pc.start] using this
theorem step_cap (p : Pc) (b : UInt8) (h : 65 ≤ b.toNat) (h' : b.toNat ≤ 90) : p.step b = p.letter (UInt8.ofNat b.toNat) := by
  have e : UInt8.ofNat b.toNat = b := by simp
  unfold Pc.step
  rw [if_pos, e]
  unfold isLet letV; rw [if_pos ⟨h, h'⟩]; simp; omega
theorem step_low (p : Pc) (b : UInt8) (h : 97 ≤ b.toNat) (h' : b.toNat ≤ 122) : p.step b = p.letter (UInt8.ofNat (b.toNat - 32)) := by
  have e : letV b = b.toNat - 96 := by unfold letV; rw [if_neg (by omega), if_pos ⟨h, h'⟩]
  unfold Pc.step
  rw [if_pos (by unfold isLet; rw [e]; simp; omega)]
  have e2 := letV_cap (b.toNat - 32) (by omega) (by omega)
  unfold Pc.letter stepC
  rw [e2, e, show b.toNat - 32 - 64 = b.toNat - 96 from by omega]
theorem step_dig (p : Pc) (b : UInt8) (h : 48 ≤ b.toNat) (h' : b.toNat ≤ 57) : p.step b = p.digit (UInt8.ofNat b.toNat) := by
  have e : UInt8.ofNat b.toNat = b := by simp
  have hd : isDig b = true := by simp [isDig, h, h']
  unfold Pc.step
  rw [if_neg (by simp [let_not_dig hd]), if_pos hd, e]
theorem step_other (p : Pc) (b : UInt8) (h1 : ¬ (65 ≤ b.toNat ∧ b.toNat ≤ 90)) (h2 : ¬ (97 ≤ b.toNat ∧ b.toNat ≤ 122)) (h3 : ¬ (48 ≤ b.toNat ∧ b.toNat ≤ 57)) : p.step b = p.other := by
  unfold Pc.step
  rw [if_neg (by unfold isLet letV; rw [if_neg h1, if_neg h2]; simp), if_neg (by simp only [isDig, decide_eq_true_eq]; exact h3)]

set_option maxRecDepth 100000 in
set_option maxHeartbeats 2000000 in
theorem addr_read (s : ByteArray) (w : World) (hs : s.size ≤ 4611686018427387904) :
    Calls Tryd.prog 52 #[.string s] w fun e w' => e = .returned (.agg (pcCells (readS s.data.toList))) ∧ Below w.heap.size w w' := by
  go_enter Tryd.func52, Tryd.ntmps52
  go_wp2_with fail
  go_loopw [10] (fun i wr => ∃ k : Nat, k ≤ s.size ∧ i = .int .i64 k ∧ Blk wr (w.heap.size + 1) 95 (pcCells (readS (s.data.toList.take k))) ∧ (∃ a0 a1 a2 a3 a4, Blk wr w.heap.size 95 #[a0, a1, a2, a3, a4]) ∧ Below w.heap.size w wr) (fun i _ => s.size - (intOf i).toNat)
  case atStart =>
    refine ⟨0, Nat.zero_le _, rfl, ?_, ⟨_, _, _, _, _, (Blk.new w 95 _).alloc _⟩, ((Below.refl _ _).alloc (Nat.le_refl _) _).alloc (by simp) _⟩
    have h := Blk.new (w.alloc (.cells #[.int .i64 0, .int .i64 0, .int .i64 0, .int .i64 0, .bool false] 95)) 95 (pcCells .start)
    rw [World.size_alloc] at h
    exact h
  case round =>
    obtain ⟨k, hk, rfl, hbp, ⟨a0, a1, a2, a3, a4, hbr⟩, hb⟩ := hrel
    have HP := Lib.hid hbp
    have HR := Lib.hid hbr
    have HB := Lib.hid hb
    clear hbp hbr hb
    by_cases hlt : k < s.size
    · have hsn := take_snoc8 s k hlt
      have HS : Hid (readS (s.data.toList.take (k + 1)) = (readS (s.data.toList.take k)).step s[k]) := by rw [hsn]; exact readS_snoc _ _
      clear hsn
      have hm := readS_m (s.data.toList.take k)
      have hlen : (s.data.toList.take k).length ≤ k := List.length_take_le _ _
      have f4 := HP.out.frozen 4
      have c4 : wr.cell? ⟨w.heap.size + 1, 4, none⟩ = some (.bool (readS (s.data.toList.take k)).ok) := HP.out.cell 4
      have hlt8 : s[k].toNat < 256 := s[k].toNat_lt
      have F4 := Lib.hid f4
      have C4 := Lib.hid c4
      have HM := Lib.hid hm
      clear f4 c4 hm
      rcases (show (97 ≤ s[k].toNat ∧ s[k].toNat ≤ 122) ∨ (65 ≤ s[k].toNat ∧ s[k].toNat ≤ 90) ∨ (48 ≤ s[k].toNat ∧ s[k].toNat ≤ 57) ∨ (s[k].toNat < 48) ∨ (57 < s[k].toNat ∧ s[k].toNat < 65) ∨ (90 < s[k].toNat ∧ s[k].toNat < 97) ∨ (122 < s[k].toNat) from by omega) with ⟨h1, h2⟩ | ⟨h1, h2⟩ | ⟨h1, h2⟩ | h1 | ⟨h1, h2⟩ | ⟨h1, h2⟩ | h1
      · go_wp2_with fail
        rw [show ((s[k].toNat : Int) - 32) = ((s[k].toNat - 32 : Nat) : Int) from by omega]
        refine (add_letter _ _ (s[k].toNat - 32) _ HP.out (by have := HM.out; omega) (by have := HM.out; omega) HM.out.2.2.1 (by omega) (by omega)).mono ?_
        rintro e w2 ⟨rfl, hp2, hg2⟩
        rw [← step_low _ _ h1 h2, ← HS.out] at hp2
        have HP2 := Lib.hid hp2
        have HG2 := Lib.hid hg2
        clear hp2 hg2
        go_wp2_with fail
        go_roundw
        case rel => exact ⟨k + 1, by omega, by go_num, HP2.out, ⟨a0, a1, a2, a3, a4, HR.out.grown HG2.out (by simp)⟩, HB.out.grown HG2.out HB.out.size (fun j e => by cases e; omega)⟩
        case measure => simp [intOf]; omega
      · go_wp2_with fail
        refine (add_letter _ _ (s[k].toNat) _ HP.out (by have := HM.out; omega) (by have := HM.out; omega) HM.out.2.2.1 (by omega) (by omega)).mono ?_
        rintro e w2 ⟨rfl, hp2, hg2⟩
        rw [← step_cap _ _ h1 h2, ← HS.out] at hp2
        have HP2 := Lib.hid hp2
        have HG2 := Lib.hid hg2
        clear hp2 hg2
        go_wp2_with fail
        go_roundw
        case rel => exact ⟨k + 1, by omega, by go_num, HP2.out, ⟨a0, a1, a2, a3, a4, HR.out.grown HG2.out (by simp)⟩, HB.out.grown HG2.out HB.out.size (fun j e => by cases e; omega)⟩
        case measure => simp [intOf]; omega
      · go_wp2_with fail
        refine (add_digit _ _ (s[k].toNat) _ HP.out (by have := HM.out; omega) (by have := HM.out; omega) HM.out.2.2.2 (by omega) (by omega)).mono ?_
        rintro e w2 ⟨rfl, hp2, hg2⟩
        rw [← step_dig _ _ h1 h2, ← HS.out] at hp2
        have HP2 := Lib.hid hp2
        have HG2 := Lib.hid hg2
        clear hp2 hg2
        go_wp2_with fail
        go_roundw
        case rel => exact ⟨k + 1, by omega, by go_num, HP2.out, ⟨a0, a1, a2, a3, a4, HR.out.grown HG2.out (by simp)⟩, HB.out.grown HG2.out HB.out.size (fun j e => by cases e; omega)⟩
        case measure => simp [intOf]; omega
      all_goals
        have f4 := F4.out
        have c4 := C4.out
        go_wp2_with fail
        go_roundw
        case rel =>
          refine ⟨k + 1, by omega, by go_num, ?_, ⟨a0, a1, a2, a3, a4, HR.out.far (by simp) _⟩, HB.out.setCell (by simp) _⟩
          rw [HS.out, step_other _ _ (by omega) (by omega) (by omega)]
          exact HP.out.set_ 4 _
        case measure => simp [intOf]; omega
    · have hke : s.data.toList.take k = s.data.toList := List.take_of_length_le (by simp; omega)
      have HP' := HP.out
      rw [hke] at HP'
      have HPP := Lib.hid HP'
      clear HP' hke
      obtain ⟨p, hp⟩ : ∃ p, p = readS s.data.toList := ⟨_, rfl⟩
      have HX := HPP.out
      rw [← hp] at HX
      have HXX := Lib.hid HX
      have HPE := Lib.hid hp
      clear HX hp
      have c0 : wr.cell? ⟨w.heap.size + 1, 0, none⟩ = some (.int .i64 p.m0) := HXX.out.cell 0
      have c1 : wr.cell? ⟨w.heap.size + 1, 1, none⟩ = some (.int .i64 p.m1) := HXX.out.cell 1
      have c2 : wr.cell? ⟨w.heap.size + 1, 2, none⟩ = some (.int .i64 p.v0) := HXX.out.cell 2
      have c3 : wr.cell? ⟨w.heap.size + 1, 3, none⟩ = some (.int .i64 p.v1) := HXX.out.cell 3
      have c4 : wr.cell? ⟨w.heap.size + 1, 4, none⟩ = some (.bool p.ok) := HXX.out.cell 4
      have r0 : wr.cell? ⟨w.heap.size, 0, none⟩ = some a0 := HR.out.cell 0
      have r1 : wr.cell? ⟨w.heap.size, 1, none⟩ = some a1 := HR.out.cell 1
      have r2 : wr.cell? ⟨w.heap.size, 2, none⟩ = some a2 := HR.out.cell 2
      have r3 : wr.cell? ⟨w.heap.size, 3, none⟩ = some a3 := HR.out.cell 3
      have r4 : wr.cell? ⟨w.heap.size, 4, none⟩ = some a4 := HR.out.cell 4
      have g0 := HR.out.frozen 0
      have g1 := HR.out.frozen 1
      have g2 := HR.out.frozen 2
      have g3 := HR.out.frozen 3
      have g4 := HR.out.frozen 4
      go_wp2_with fail
      have h5 : Blk (((((wr.setCell ⟨w.heap.size, 0, none⟩ (.int .i64 p.m0)).setCell ⟨w.heap.size, 1, none⟩ (.int .i64 p.m1)).setCell ⟨w.heap.size, 2, none⟩ (.int .i64 p.v0)).setCell ⟨w.heap.size, 3, none⟩ (.int .i64 p.v1)).setCell ⟨w.heap.size, 4, none⟩ (.bool p.ok)) w.heap.size 95 (pcCells p) :=
        ((((HR.out.set_ 0 _).set_ 1 _).set_ 2 _).set_ 3 _).set_ 4 _
      have b5 : Below w.heap.size w (((((wr.setCell ⟨w.heap.size, 0, none⟩ (.int .i64 p.m0)).setCell ⟨w.heap.size, 1, none⟩ (.int .i64 p.m1)).setCell ⟨w.heap.size, 2, none⟩ (.int .i64 p.v0)).setCell ⟨w.heap.size, 3, none⟩ (.int .i64 p.v1)).setCell ⟨w.heap.size, 4, none⟩ (.bool p.ok)) :=
        ((((HB.out.setCell (Nat.le_refl _) _).setCell (Nat.le_refl _) _).setCell (Nat.le_refl _) _).setCell (Nat.le_refl _) _).setCell (Nat.le_refl _) _
      clear r0 r1 r2 r3 r4 g0 g1 g2 g3 g4 c0 c1 c2 c3 c4
      generalize (((((wr.setCell ⟨w.heap.size, 0, none⟩ (.int .i64 p.m0)).setCell ⟨w.heap.size, 1, none⟩ (.int .i64 p.m1)).setCell ⟨w.heap.size, 2, none⟩ (.int .i64 p.v0)).setCell ⟨w.heap.size, 3, none⟩ (.int .i64 p.v1)).setCell ⟨w.heap.size, 4, none⟩ (.bool p.ok)) = W5 at h5 b5 ⊢
      have c0 : W5.cell? ⟨w.heap.size, 0, none⟩ = some (.int .i64 p.m0) := h5.cell 0
      have c1 : W5.cell? ⟨w.heap.size, 1, none⟩ = some (.int .i64 p.m1) := h5.cell 1
      have c2 : W5.cell? ⟨w.heap.size, 2, none⟩ = some (.int .i64 p.v0) := h5.cell 2
      have c3 : W5.cell? ⟨w.heap.size, 3, none⟩ = some (.int .i64 p.v1) := h5.cell 3
      have c4 : W5.cell? ⟨w.heap.size, 4, none⟩ = some (.bool p.ok) := h5.cell 4
      refine bodyPost_ret (v := .agg (pcCells p)) (by simp [results, Tryd.results52, go_sem, pcCells, c0, c1, c2, c3, c4]) rfl ⟨by rw [HPE.out], b5⟩
end Go.Proofs.YtlngjiibbcgkmaaDoor
