/- LexTokens: the walk. -/
import Derived.Test.YtlngjiibbcgkmaaGreatDoorRefC
import Derived.Test.YtlngjiibbcgkmaaGreatDoorGaps
namespace Go.Proofs.YtlngjiibbcgkmaaGreatDoor
open Go.RowKit

/-- a row that may be written: its eight cells from 8 * i on -/
theorem row8 {w : World} {base g tl cap : Nat} {xs : List Value} (h : w.ownsRow base 43 8 (.slice (some ⟨g, 0, none⟩) tl cap) tl xs) (i : Nat) (hi : i < tl) :
    ∃ v0 v1 v2 v3 v4 v5 v6 v7 : Value, (w.cell? ⟨g, i * 8, none⟩ = some v0 ∧ w.cell? ⟨g, i * 8 + 1, none⟩ = some v1 ∧ w.cell? ⟨g, i * 8 + 2, none⟩ = some v2 ∧ w.cell? ⟨g, i * 8 + 3, none⟩ = some v3 ∧ w.cell? ⟨g, i * 8 + 4, none⟩ = some v4 ∧ w.cell? ⟨g, i * 8 + 5, none⟩ = some v5 ∧ w.cell? ⟨g, i * 8 + 6, none⟩ = some v6 ∧ w.cell? ⟨g, i * 8 + 7, none⟩ = some v7) ∧
      w.frozen? ⟨g, i * 8, none⟩ = false ∧ w.frozen? ⟨g, i * 8 + 1, none⟩ = false ∧ w.frozen? ⟨g, i * 8 + 2, none⟩ = false ∧ w.frozen? ⟨g, i * 8 + 3, none⟩ = false ∧ w.frozen? ⟨g, i * 8 + 4, none⟩ = false ∧ w.frozen? ⟨g, i * 8 + 5, none⟩ = false ∧ w.frozen? ⟨g, i * 8 + 6, none⟩ = false ∧ w.frozen? ⟨g, i * 8 + 7, none⟩ = false := by
  have hl : xs.length = tl * 8 := h.1
  have key : ∀ j, j < 8 → ∃ v, w.cell? ⟨g, i * 8 + j, none⟩ = some v := fun j hj => by
    refine ⟨xs[i * 8 + j]'(by omega), ?_⟩
    rw [h.cellAt (i * 8 + j) (by omega)]
    exact List.getElem?_eq_getElem _
  obtain ⟨v0, h0⟩ := key 0 (by decide)
  obtain ⟨v1, h1⟩ := key 1 (by decide)
  obtain ⟨v2, h2⟩ := key 2 (by decide)
  obtain ⟨v3, h3⟩ := key 3 (by decide)
  obtain ⟨v4, h4⟩ := key 4 (by decide)
  obtain ⟨v5, h5⟩ := key 5 (by decide)
  obtain ⟨v6, h6⟩ := key 6 (by decide)
  obtain ⟨v7, h7⟩ := key 7 (by decide)
  exact ⟨v0, v1, v2, v3, v4, v5, v6, v7, ⟨h0, h1, h2, h3, h4, h5, h6, h7⟩, h.frozenAt _, h.frozenAt _, h.frozenAt _, h.frozenAt _, h.frozenAt _, h.frozenAt _, h.frozenAt _, h.frozenAt _⟩
set_option maxRecDepth 100000 in
set_option maxHeartbeats 8000000 in
theorem law_LexTokens (s : ByteArray) (w : World) (he : WEnv w) :
    Calls Tryz.prog 5 #[.string s] w fun e w' => e = .returned (.bool true) ∧ Below w.heap.size w w' := by
  have HE := keep he
  clear he
  go_enter Tryz.func5, Tryz.ntmps5
  go_wp2_with fail
  have hS := cut_len s 300
  rw [show (((300 : Nat) : Int)) = 300 from rfl] at hS
  generalize s.extract 0 (min (s.size : Int) 300).toNat = S at hS ⊢
  go_loopw [3] (fun rv wr => ∃ r : Nat, r ≤ 2 ∧ rv = .int .i64 (r : Int) ∧ Hid (Below w.heap.size w wr)) (fun rv _ => 2 - (intOf rv).toNat)
  case atStart => exact ⟨0, Nat.zero_le _, rfl, Below.refl _ _⟩
  case round =>
    obtain ⟨r, hr, rfl, HB⟩ := hrel
    obtain ⟨wp, rfl⟩ : ∃ wp : World, wp = wr := ⟨_, rfl⟩
    have HBASE := Lib.hid HB.out.size
    by_cases hlt : (r : Int) < 2
    · have hlt2 : r < 2 := by omega
      have hd1 : decide (r < 2) = true := decide_eq_true hlt2
      have hd2 : decide ((r : Int) < 2) = true := decide_eq_true hlt
      go_wp2_with fail
      refine (lex_Tokens S _ (by omega) (HE.out.1.below HB.out)).mono ?_
      rintro e w1 ⟨v, rfl, hown, hb⟩
      obtain ⟨T, hT⟩ : ∃ T, tokensS S.data.toList = T := ⟨_, rfl⟩
      rw [hT] at hown ⊢
      have hlen : T.1.length ≤ 256 := by
        obtain ⟨ts, p, er⟩ := T
        by_cases h0 : er = 0
        · subst h0
          obtain ⟨-, h1, -, h3⟩ := toks_parts hT
          exact Nat.le_trans h3.count h1
        · obtain ⟨rfl, -, -⟩ := tokens_fault hT h0
          exact Nat.zero_le _
      have HT := keep hT
      clear hT
      obtain ⟨ts, p, er⟩ := T
      have hown : w1.ownsRow wp.heap.size 43 8 v ts.length (tkCells ts) := hown
      have hlen : ts.length ≤ 256 := hlen
      have HOW := Lib.hid hown
      obtain ⟨a1, c1, rfl, hat⟩ := tks_own hown
      have HA := keep (show TksAt w1 a1 c1 (pairL ts) from hat)
      have HW1 := Lib.hid (HB.out.trans (hb.mono HB.out.size))
      clear hat hown
      simp only []
      go_wp2_with fail
      refine (ref7_Tokens S _ (by omega)).mono ?_
      rintro e w2 ⟨v2, rfl, hown2, hb2⟩
      rw [HT.out] at hown2 ⊢
      obtain ⟨a2, c2, rfl, hat⟩ := tks_own hown2
      have HA2 := keep (show TksAt w2 a2 c2 (pairL ts) from hat)
      have HA1 := keep (HA.out.below hb2)
      have HW2 := Lib.hid (HW1.out.trans (hb2.mono HW1.out.size))
      have HO2 := Lib.hid (HOW.out.kept (only_of_below hb2 none) (by
        cases h9 : (Value.slice a1 ts.length c1).ownBlock with
        | none => exact .inl rfl
        | some x => exact .inr (by simp)))
      have HSZ := Lib.hid hb.size
      clear hat hown2 hb hb2 HOW HA HW1 HB
      simp only []
      go_wp2_with fail
      have heq := equal_tokens (pairL ts) a1 a2 c1 c2 w2 HA1.out HA2.out (by rw [pair_len]; omega)
      rw [pair_len] at heq
      refine heq.mono ?_
      rintro e w3 ⟨rfl, hb3⟩
      have HW3 := Lib.hid (HW2.out.trans (hb3.mono HW2.out.size))
      have HO3 := Lib.hid (HO2.out.kept (only_of_below hb3 none) (by
        cases h9 : (Value.slice a1 ts.length c1).ownBlock with
        | none => exact .inl rfl
        | some x => exact .inr (by simp)))
      clear hb3 HW2 HO2 heq HA1 HA2
      have hpp : (p != p) = false := by simp
      have hee : (er != er) = false := by simp
      obtain ⟨tl, htl⟩ : ∃ tl, ts.length = tl := ⟨_, rfl⟩
      rw [htl] at hlen HO3 ⊢
      clear HSZ htl
      go_wp2_with fail
      go_loopw [10] (fun iv wr => ∃ i : Nat, i ≤ tl ∧ iv = .int .i64 (i : Int) ∧ Hid (Below w.heap.size w wr) ∧ Hid (∃ xs, wr.ownsRow wp.heap.size 43 8 (.slice a1 tl c1) tl xs)) (fun iv _ => tl - (intOf iv).toNat)
      case atStart => exact ⟨0, Nat.zero_le _, rfl, HW3, Lib.hid ⟨_, HO3.out⟩⟩
      case round =>
        clear HW3 HO3
        obtain ⟨i, hi, rfl, HBW, HOW⟩ := hrel
        obtain ⟨wq, rfl⟩ : ∃ wq : World, wq = wr := ⟨_, rfl⟩
        by_cases hit : (i : Int) < tl
        · obtain ⟨xs, hown⟩ := HOW.out
          obtain ⟨g, cap, hv, -, -⟩ := hown.form (by omega)
          injection hv with hv1 hv2 hv3
          subst hv1
          subst hv3
          obtain ⟨v0, v1, v2, v3, v4, v5, v6, v7, ⟨c0, c1, c2, c3, c4, c5, c6, c7⟩, f0, f1, f2, f3, f4, f5, f6, f7⟩ := row8 hown i (by omega)
          have HX := Lib.hid hown
          have hg : w.heap.size ≤ g := Nat.le_trans HBASE.out (hown.lt g rfl).1
          have hgb : g < wq.heap.size := (hown.lt g rfl).2
          clear hown HOW
          go_wp2_with fail
          clear c0 c1 c2 c3 c4 c5 c6 c7 f0 f1 f2 f3 f4 f5 f6 f7
          go_roundw
          case rel =>
            have h9 := HX.out
            exact ⟨i + 1, by omega, by go_num, Lib.hid ((((((((HBW.out.setCell hg _).setCell hg _).setCell hg _).setCell hg _).setCell hg _).setCell hg _).setCell hg _).setCell hg _), Lib.hid ⟨_, ((((((((h9.stored (i * 8) (.int .u8 0)).1.stored (i * 8 + 1) (.int .i64 0)).1.stored (i * 8 + 2) (.string ⟨#[]⟩)).1.stored (i * 8 + 3) (.int .i64 0)).1.stored (i * 8 + 4) (.int .i64 0)).1.stored (i * 8 + 5) (.int .i64 0)).1.stored (i * 8 + 6) (.int .i64 0)).1.stored (i * 8 + 7) (.int .i64 0)).1⟩⟩
          case measure => simp [intOf]; omega
        · clear HOW
          go_wp2_with fail
          go_roundw
          case rel => exact ⟨r + 1, by omega, by go_num, HBW⟩
          case measure => simp [intOf]; omega
    · go_wp2_with fail
      refine (law_awake7 _ (HE.out.below HB.out)).mono ?_
      rintro e w1 ⟨rfl, hb⟩
      have HW := Lib.hid (HB.out.trans (hb.mono HB.out.size))
      clear hb
      go_wp2_with fail
      go_ret
      exact ⟨rfl, HW.out⟩
theorem LexTokens_walk (s : ByteArray) (w : World) (_hs : s.size ≤ maxLen) (hL : laidMetH Tryz.prog Rows.lexTokensRow.laid w) (hS : w.ShapedOpen Tryz.prog) :
    Calls Tryz.prog 5 #[.string s] w fun e w' => e = .returned (.bool true) ∧ Below w.heap.size w w' :=
  law_LexTokens s w (env7_of hL hS (by kernel_rfl) (by kernel_rfl))
end Go.Proofs.YtlngjiibbcgkmaaGreatDoor
