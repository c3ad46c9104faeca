/- Contracts of package addr's Parse and Column. -/
import Derived.Test.YtlngjiibbcgkmaaDoorAddP5
namespace Go.Proofs.YtlngjiibbcgkmaaDoor
open Go.RowKit

theorem ref_two (w1 : World) (b : Nat) (t : TypeId) (x y : Value) (h : Blk w1 b t #[x, y]) (u v : Value) : Blk ((w1.setCell ⟨b, 0, none⟩ u).setCell ⟨b, 1, none⟩ v) b t #[u, v] :=
  (h.set_ 0 u).set_ 1 v

set_option maxHeartbeats 1000000 in
theorem addr_Parse (s : ByteArray) (w : World) (hs : s.size ≤ 4611686018427387904) :
    Calls Tryd.prog 34 #[.string s] w fun e w' => e = .returned (.tuple #[.agg #[.int .i64 (parseS s.data.toList).1, .int .i64 (parseS s.data.toList).2.1], .int .i64 (parseS s.data.toList).2.2]) ∧ Below w.heap.size w w' := by
  rw [← parse_read]
  generalize hR : parseOf (readS s.data.toList) = R
  obtain ⟨R1, R2, R3⟩ := R
  have HR := Lib.hid hR
  clear hR
  go_enter Tryd.func34, Tryd.ntmps34
  go_wp2_with fail
  refine (addr_read _ _ hs).mono ?_
  rintro e w1 ⟨rfl, hb⟩
  have hm := readS_m s.data.toList
  have hR := HR.out
  generalize readS s.data.toList = p at hm hR ⊢
  obtain ⟨m0, m1, v0, v1, ok⟩ := p
  simp only [] at hm
  obtain ⟨hm0, hm1, hm2, hm3⟩ := hm
  have hlen : s.data.toList.length ≤ 4611686018427387904 := by simpa using hs
  have b0 : m0 ≤ 4611686018427387904 := by omega
  have b1 : m1 ≤ 4611686018427387904 := by omega
  clear HR hm0 hm1 hlen
  have H1 := Lib.hid ((Blk.new w 73 #[.int .i64 0, .int .i64 0]).below hb (by simp))
  have hz : w.heap.size + 1 ≤ w1.heap.size := by have := hb.size; simpa using this
  have HB := Lib.hid (((Below.refl w.heap.size w).alloc (Nat.le_refl _) _).trans (hb.mono (by simp)))
  clear hb
  have r0 : ∀ o, (w1.alloc o).cell? ⟨w.heap.size, 0, none⟩ = some (.int .i64 0) := fun o => (H1.out.alloc o).cell 0
  have r1 : ∀ o, (w1.alloc o).cell? ⟨w.heap.size, 1, none⟩ = some (.int .i64 0) := fun o => (H1.out.alloc o).cell 1
  have g0 : ∀ o, (w1.alloc o).frozen? ⟨w.heap.size, 0, none⟩ = false := fun o => (H1.out.alloc o).frozen 0
  have g1 : ∀ o, (w1.alloc o).frozen? ⟨w.heap.size, 1, none⟩ = false := fun o => (H1.out.alloc o).frozen 1
  unfold pcCells
  have fin : ∀ (W' : World) (c r e : Int) (fr : Act), parseOf ⟨m0, m1, v0, v1, ok⟩ = (c, r, e) → Blk W' w.heap.size 73 #[.int .i64 c, .int .i64 r] → Below w.heap.size w W' → fr.tmps.getD 2 undef = .pointer (some ⟨w.heap.size, 0, none⟩) → fr.tmps.getD 3 undef = .int .i64 e → fr.defers = [] →
      bodyPost Tryd.prog Tryd.f34 (fun e w' => e = .returned (.tuple #[.agg #[.int .i64 R1, .int .i64 R2], .int .i64 R3]) ∧ Below w.heap.size w w') Exit.ret fr W' := by
    intro W' c r e fr hp hB hb h2 h3 hd
    rw [hp] at hR
    cases hR
    have c0 : W'.cell? ⟨w.heap.size, 0, none⟩ = some (.int .i64 R1) := hB.cell 0
    have c1 : W'.cell? ⟨w.heap.size, 1, none⟩ = some (.int .i64 R2) := hB.cell 1
    have h2' : (fr.tmps[2]?).getD undef = .pointer (some ⟨w.heap.size, 0, none⟩) := by simpa using h2
    have h3' : (fr.tmps[3]?).getD undef = .int .i64 R3 := by simpa using h3
    exact bodyPost_ret (v := .tuple #[.agg #[.int .i64 R1, .int .i64 R2], .int .i64 R3]) (by simp [results, Tryd.results34, go_sem, h2', h3', c0, c1]) hd ⟨rfl, hb⟩
  have FIN := Lib.hid fin
  clear fin
  cases ok
  · go_wp2_with fail
    try simp only [Exit.inBlock, Exit.then]
    exact FIN.out _ 0 0 4 _ (by simp [parseOf]) ((((H1.out.alloc _).set_ 0 _).set_ 1 _)) (((HB.out.alloc HB.out.size _).setCell (Nat.le_refl _) _).setCell (Nat.le_refl _) _) rfl rfl rfl
  · by_cases h0 : m0 = 0
    · subst h0
      go_wp2_with fail
      try simp only [Exit.inBlock, Exit.then]
      exact FIN.out _ 0 0 4 _ (by simp [parseOf]) ((((H1.out.alloc _).set_ 0 _).set_ 1 _)) (((HB.out.alloc HB.out.size _).setCell (Nat.le_refl _) _).setCell (Nat.le_refl _) _) rfl rfl rfl
    · have e0 : ((m0 : Int) == 0) = false := by simpa using h0
      by_cases h1 : m1 = 0
      · subst h1
        have HH0 := Lib.hid h0
        clear h0
        go_wp2_with fail
        try simp only [Exit.inBlock, Exit.then]
        exact FIN.out _ 0 0 4 _ (by simp [parseOf]) ((((H1.out.alloc _).set_ 0 _).set_ 1 _)) (((HB.out.alloc HB.out.size _).setCell (Nat.le_refl _) _).setCell (Nat.le_refl _) _) rfl rfl rfl
      · have e1 : ((m1 : Int) == 0) = false := by simpa using h1
        have HH0 := Lib.hid h0
        have HH1 := Lib.hid h1
        clear h0 h1
        go_wp2_with fail
        refine (addr_Valid _ _ _).mono ?_
        rintro e w2 ⟨rfl, hb2⟩
        have HB2 := Lib.hid ((((HB.out.alloc HB.out.size (.cells #[.int .i64 m0, .int .i64 m1, .int .i64 v0, .int .i64 v1, .bool true] 95)).alloc (by have := HB.out.size; simp; omega) (.cells #[.int .i64 v0, .int .i64 v1] 73)).trans (hb2.mono (by have := HB.out.size; simp; omega))))
        have H2 := Lib.hid (((H1.out.alloc (.cells #[.int .i64 m0, .int .i64 m1, .int .i64 v0, .int .i64 v1, .bool true] 95)).alloc (.cells #[.int .i64 v0, .int .i64 v1] 73)).below hb2 (by simp; omega))
        have c0 := hb2.cell (p := ⟨w1.heap.size + 1, 0, none⟩) (by simp)
        have c1 := hb2.cell (p := ⟨w1.heap.size + 1, 1, none⟩) (by simp)
        have q0 : w2.cell? ⟨w.heap.size, 0, none⟩ = some (.int .i64 0) := H2.out.cell 0
        have q1 : w2.cell? ⟨w.heap.size, 1, none⟩ = some (.int .i64 0) := H2.out.cell 1
        have k0 := H2.out.frozen 0
        have k1 := H2.out.frozen 1
        clear hb2
        cases hv : validN v0 v1
        · have HV := Lib.hid hv
          clear hv
          go_wp2_with fail
          try simp only [Exit.inBlock, Exit.then]
          exact FIN.out _ 0 0 3 _ (by simp [parseOf, HH0.out, HH1.out, HV.out]) (((H2.out.set_ 0 _).set_ 1 _)) ((HB2.out.setCell (Nat.le_refl _) _).setCell (Nat.le_refl _) _) rfl rfl rfl
        · have HV := Lib.hid hv
          clear hv
          go_wp2_with fail
          try simp only [Exit.inBlock, Exit.then]
          exact FIN.out _ v0 v1 0 _ (by simp [parseOf, HH0.out, HH1.out, HV.out]) (((H2.out.set_ 0 _).set_ 1 _)) ((HB2.out.setCell (Nat.le_refl _) _).setCell (Nat.le_refl _) _) rfl rfl rfl

end Go.Proofs.YtlngjiibbcgkmaaDoor
