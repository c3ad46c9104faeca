/- The contract of the reference's Write. -/
import Derived.Test.YtlngjiibbcgkmaaGreatDoorWri2
import Derived.Test.YtlngjiibbcgkmaaGreatDoorRefC
namespace Go.Proofs.YtlngjiibbcgkmaaGreatDoor
open Go.RowKit

theorem ref7_written (k : Nat) (n a1 a2 a3 a4 p : Int) (s : ByteArray) (w : World) (h1 : -9223372036854775808 ≤ n) (h2 : n ≤ 9223372036854775807) (hs : s.size ≤ 4611686018427387904) :
    Calls Tryz.prog 47 #[.agg #[.int .u8 (k : Nat), .int .i64 n, .string s, .int .i64 a1, .int .i64 a2, .int .i64 a3, .int .i64 a4, .int .i64 p]] w (WOut ⟨k, n, s.data.toList, ⟨a1, a2, a3, a4⟩, 0⟩ w) := by
  by_cases hk : k = 0 ∨ 12 ≤ k
  · exact written_none k hk n a1 a2 a3 a4 p s w
  rcases (show k = 1 ∨ k = 2 ∨ k = 3 ∨ k = 4 ∨ k = 5 ∨ k = 6 ∨ k = 7 ∨ k = 8 ∨ k = 9 ∨ k = 10 ∨ k = 11 by omega) with rfl | rfl | rfl | rfl | rfl | rfl | rfl | rfl | rfl | rfl | rfl
  · exact written_1 n a1 a2 a3 a4 p s w h1 h2
  · exact written_2 n a1 a2 a3 a4 p s w hs
  · exact written_3 n a1 a2 a3 a4 p s w
  · exact written_4 n a1 a2 a3 a4 p s w
  · exact written_5 n a1 a2 a3 a4 p s w
  · exact written_6 n a1 a2 a3 a4 p s w
  · exact written_7 n a1 a2 a3 a4 p s w hs
  · exact written_8 n a1 a2 a3 a4 p s w
  · exact written_9 n a1 a2 a3 a4 p s w
  · exact written_10 n a1 a2 a3 a4 p s w
  · exact written_11 n a1 a2 a3 a4 p s w
attribute [local go_sem high] eq_tok
/-- the tokens read back, those from j on as they were -/
def Back (w : World) (base : Nat) (v : Value) (us : List Tk) (j : Nat) : Prop :=
  ∃ xs, w.ownsRow base 43 8 v us.length xs ∧ ∀ i m, j ≤ i → xs[i * 8 + m]? = (tkCells us)[i * 8 + m]?
theorem Back.kept {w w' : World} {base : Nat} {v : Value} {us : List Tk} {j : Nat} (h : Back w base v us j) (hb : Below w.heap.size w w') : Back w' base v us j := by
  obtain ⟨xs, h1, h2⟩ := h
  exact ⟨xs, h1.kept (only_of_below hb none) (by
    cases h9 : v.ownBlock with
    | none => exact .inl rfl
    | some x => exact .inr (by simp)), h2⟩
theorem Back.cells {w : World} {base g c : Nat} {us : List Tk} {j : Nat} {t : Tk} (h : Back w base (.slice (some ⟨g, 0, none⟩) us.length c) us j) (ht : us[j]? = some t) :
    (w.cell? ⟨g, j * 8, none⟩ = some (.int .u8 t.kind) ∧ w.cell? ⟨g, j * 8 + 1, none⟩ = some (.int .i64 t.num) ∧ w.cell? ⟨g, j * 8 + 2, none⟩ = some (.string ⟨t.text.toArray⟩) ∧ w.cell? ⟨g, j * 8 + 3, none⟩ = some (.int .i64 t.r.c1) ∧ w.cell? ⟨g, j * 8 + 4, none⟩ = some (.int .i64 t.r.r1) ∧ w.cell? ⟨g, j * 8 + 5, none⟩ = some (.int .i64 t.r.c2) ∧ w.cell? ⟨g, j * 8 + 6, none⟩ = some (.int .i64 t.r.r2) ∧ w.cell? ⟨g, j * 8 + 7, none⟩ = some (.int .i64 (t.at_ : Nat))) ∧
      w.frozen? ⟨g, j * 8 + 7, none⟩ = false ∧ base ≤ g ∧ g < w.heap.size := by
  obtain ⟨xs, h1, h2⟩ := h
  have hj := (List.getElem?_eq_some_iff.1 ht).1
  have key : ∀ m v, (tkRow t)[m]? = some v → m < 8 → w.cell? ⟨g, j * 8 + m, none⟩ = some v := fun m v hm h8 => by
    rw [h1.cellAt (j * 8 + m) (by omega), h2 j m (Nat.le_refl _)]
    exact flat_atW tkRow 8 (fun _ => rfl) us j t ht m v hm
  exact ⟨⟨key 0 _ rfl (by decide), key 1 _ rfl (by decide), key 2 _ rfl (by decide), key 3 _ rfl (by decide), key 4 _ rfl (by decide), key 5 _ rfl (by decide), key 6 _ rfl (by decide), key 7 _ rfl (by decide)⟩, h1.frozenAt _, (h1.lt g rfl).1, (h1.lt g rfl).2⟩
theorem Back.stored {w : World} {base g c : Nat} {us : List Tk} {j : Nat} (h : Back w base (.slice (some ⟨g, 0, none⟩) us.length c) us j) (u : Value) : Back (w.setCell ⟨g, j * 8 + 7, none⟩ u) base (.slice (some ⟨g, 0, none⟩) us.length c) us (j + 1) := by
  obtain ⟨xs, h1, h2⟩ := h
  refine ⟨_, (h1.stored (j * 8 + 7) u).1, fun i m hi => ?_⟩
  rw [List.getElem?_set_ne (by omega)]
  exact h2 i m (by omega)
set_option maxRecDepth 100000 in
set_option maxHeartbeats 8000000 in
theorem ref7_Write (ts : List (Tk × Int)) (a : Option Addr) (c : Nat) (w : World) (ha : TksAt w a c ts) (hf : ∀ t ∈ ts, t.1.fits) (hN : ts.length ≤ 1000000000000) :
    Calls Tryz.prog 23 #[.slice a ts.length c] w (WriteOut (ts.map Prod.fst) w) := by
  obtain ⟨N, hl⟩ : ∃ N, ts.length = N := ⟨_, rfl⟩
  rw [hl] at hN ⊢
  have HL := keep hl
  have HA := keep ha
  have HF := keep hf
  clear hl ha hf
  go_enter Tryz.func23, Tryz.ntmps23
  go_wp2_with fail
  go_loopw [4, 5] (fun ov i wr => ∃ (k : Nat) (X : ByteArray), k ≤ N ∧ ov = .string X ∧ X.size ≤ 7300 ∧ i = .int .i64 (k : Int) ∧ Keep (Acc ((ts.take k).map Prod.fst) X.data.toList) ∧ Hid (Below w.heap.size w wr)) (fun _ i _ => N - (intOf i).toNat)
  case atStart => exact ⟨0, ⟨#[]⟩, Nat.zero_le _, rfl, by decide, rfl, keep Acc.nil, Below.refl _ _⟩
  case round =>
    obtain ⟨k, X, hk, rfl, hX, rfl, HC, HW⟩ := hrel
    obtain ⟨wp, rfl⟩ : ∃ wp : World, wp = wr := ⟨_, rfl⟩
    have hxl : X.data.toList.length = X.size := by rw [Array.length_toList]; rfl
    have HXL := keep hxl
    clear hxl
    by_cases hlt : (k : Int) < N
    · have hil : k < ts.length := by rw [HL.out]; omega
      obtain ⟨x, hx⟩ : ∃ x, ts[k] = x := ⟨_, rfl⟩
      obtain ⟨b1, o1, ha1, hB1, hc1⟩ := HA.out.at_ (by intro e; rw [e] at hil; simp at hil)
      subst ha1
      have hgk : ts[k]? = some x := by rw [List.getElem?_eq_getElem hil, hx]
      have g1 := hc1 k x hgk
      have hfx := HF.out x (hx ▸ List.getElem_mem hil)
      obtain ⟨⟨tk, tn, tt, ⟨r1, r2, r3, r4⟩, ta⟩, p⟩ := x
      have c0 := (HW.out.cell hB1).trans (g1 0 _ rfl)
      have c1 := (HW.out.cell hB1).trans (g1 1 _ rfl)
      have c2 := (HW.out.cell hB1).trans (g1 2 _ rfl)
      have c3 := (HW.out.cell hB1).trans (g1 3 _ rfl)
      have c4 := (HW.out.cell hB1).trans (g1 4 _ rfl)
      have c5 := (HW.out.cell hB1).trans (g1 5 _ rfl)
      have c6 := (HW.out.cell hB1).trans (g1 6 _ rfl)
      have c7 := (HW.out.cell hB1).trans (g1 7 _ rfl)
      simp only [Nat.add_zero, ← Nat.add_assoc] at c0 c1 c2 c3 c4 c5 c6 c7
      have hb1 : b1 < wp.heap.size := Nat.lt_of_lt_of_le hB1 HW.out.size
      have HFX := keep hfx
      have HGK := keep hgk
      clear hil hx hc1 g1 hfx hgk hB1
      go_wp2_with fail
      obtain ⟨q, hq⟩ : ∃ q, okT ⟨tk, tn, tt, ⟨r1, r2, r3, r4⟩, ta⟩ = q := ⟨_, rfl⟩
      refine (ref7_written tk tn r1 r2 r3 r4 p ⟨tt.toArray⟩ _ HFX.out.1 HFX.out.2.1 (by have h9 := HFX.out.2.2; show tt.toArray.size ≤ _; rw [List.size_toArray]; exact h9)).mono ?_
      rintro e w1 hout
      obtain ⟨y, he, hy, hb⟩ := hout
      have he2 : e = .returned (.tuple #[.string y, .bool q]) := by rw [he, ← hq]; rfl
      have hy2 : q = true → y.data.toList = textS ⟨tk, tn, tt, ⟨r1, r2, r3, r4⟩, ta⟩ := fun h => hy (hq.trans h)
      subst he2
      have HQ := keep hq
      have HY := keep hy2
      have HW1 := Lib.hid (HW.out.trans (hb.mono HW.out.size))
      clear c0 c1 c2 c3 c4 c5 c6 c7 hb HW hb1 he hy hq hy2
      cases q with
      | false =>
        go_wp2_with fail
        refine bodyPost_ret (v := .tuple #[.string ⟨#[]⟩, .int .i64 2]) (by simp [results, Tryz.results23, go_sem]) rfl ⟨?_, HW1.out⟩
        rw [write_bad (List.mem_map_of_mem (f := Prod.fst) (List.mem_of_getElem? HGK.out)) HQ.out]
      | true =>
        have HYT := keep (HY.out rfl)
        have hys : y.size ≤ 7000 := by
          have h9 := textS_len _ HQ.out HFX.out.1 HFX.out.2.1
          have h8 := HYT.out
          have h7 : y.data.toList.length = y.size := Array.length_toList
          rw [h8] at h7
          omega
        by_cases hl : (X.size : Int) ≤ 256
        · have HXY := keep (snoc_bytes X y)
          have hxy : (X ++ y).size ≤ 7300 := by rw [ByteArray.size_append]; omega
          go_wp2_with fail
          go_roundw
          case rel => exact ⟨k + 1, X ++ y, by omega, rfl, hxy, by go_num, keep (by rw [HXY.out, take_fst HGK.out, HYT.out]; exact HC.out.add (by rw [HXL.out]; omega) HQ.out HFX.out), HW1⟩
          case measure => simp [intOf]; omega
        · go_wp2_with fail
          go_roundw
          case rel => exact ⟨k + 1, X, by omega, rfl, hX, by go_num, keep (by rw [take_fst HGK.out]; exact HC.out.skip (by rw [HXL.out]; omega) HQ.out), HW1⟩
          case measure => simp [intOf]; omega
    · obtain rfl : k = N := by omega
      have hall : (ts.take k).map Prod.fst = ts.map Prod.fst := by rw [List.take_of_length_le (Nat.le_of_eq HL.out)]
      have HC2 := keep (hall ▸ HC.out)
      clear HC hall
      by_cases hl : (X.size : Int) > 256
      · go_wp2_with fail
        refine bodyPost_ret (v := .tuple #[.string ⟨#[]⟩, .int .i64 5]) (by simp [results, Tryz.results23, go_sem]) rfl ⟨?_, HW.out⟩
        rw [write_long HC2.out (by rw [HXL.out]; omega)]
      · have hl3 : ¬ 256 < X.data.toList.length := by rw [HXL.out]; omega
        have HLL := keep hl3
        have HX := keep (show X.data.toList = (ts.map Prod.fst).flatMap textS by
          rcases HC2.out.2.2 with h | h
          · exact h.2
          · exact absurd h.1 hl3)
        clear hl3
        go_wp2_with fail
        obtain ⟨T, hT⟩ : ∃ T, tokensS X.data.toList = T := ⟨_, rfl⟩
        refine (ref7_Tokens X _ (by omega)).mono ?_
        rintro e w4 hout
        obtain ⟨v, he, hown, hb4⟩ := hout
        rw [hT] at he hown
        obtain ⟨a2, c2, rfl, hat⟩ := tks_own hown
        subst he
        have HT := keep hT
        have HW4 := Lib.hid (HW.out.trans (hb4.mono HW.out.size))
        have HWS := Lib.hid HW.out.size
        obtain ⟨ts2, at2, e2⟩ := T
        have HB4 := Lib.hid (show Back w4 wp.heap.size (.slice a2 ts2.length c2) ts2 0 from ⟨_, hown, fun _ _ _ => rfl⟩)
        clear hT hown hat hb4 HW
        simp only []
        by_cases he2 : e2 = 0
        · subst he2
          by_cases hn : ts2.length = k
          · have e3 : (((ts2.length : Nat) : Int) != ((k : Nat) : Int)) = false := by rw [hn]; simp
            have HN2 := keep hn
            clear hn
            obtain ⟨m2, hm2⟩ : ∃ m2, ts2.length = m2 := ⟨_, rfl⟩
            have HM2 := keep hm2
            rw [hm2] at e3 HB4 ⊢
            have hmk : m2 = k := by rw [← hm2]; exact HN2.out
            subst hmk
            clear hm2
            go_wp2_with fail
            go_loopw [11] (fun i wr => ∃ j : Nat, j ≤ m2 ∧ i = .int .i64 (j : Int) ∧ Keep (sameL (ts2.take j) ((ts.map Prod.fst).take j) = true) ∧ Hid (Back wr wp.heap.size (.slice a2 ts2.length c2) ts2 j) ∧ Hid (Below w.heap.size w wr)) (fun i _ => m2 - (intOf i).toNat)
            case atStart => exact ⟨0, Nat.zero_le _, rfl, keep rfl, by rw [HM2.out]; exact HB4, HW4⟩
            case round =>
              clear HB4 HW4
              obtain ⟨j, hj, rfl, HS, HB5, HW5⟩ := hrel
              obtain ⟨wq, rfl⟩ : ∃ wq : World, wq = wr := ⟨_, rfl⟩
              by_cases hlt2 : (j : Int) < m2
              · have hj1 : j < ts2.length := by rw [HM2.out]; omega
                have hj2 : j < ts.length := by rw [HL.out]; omega
                obtain ⟨g, cg, hga, -, -⟩ := (HB5.out.choose_spec.1).form (by omega)
                injection hga with hga1 hga2 hga3
                subst hga1
                obtain ⟨b2, o2, ha2, hB2, hc2⟩ := HA.out.at_ (by intro e; rw [e] at hj2; simp at hj2)
                subst ha2
                obtain ⟨x, hx⟩ : ∃ x, ts2[j]? = some x := ⟨_, List.getElem?_eq_getElem hj1⟩
                obtain ⟨y, hy⟩ : ∃ y, ts[j]? = some y := ⟨_, List.getElem?_eq_getElem hj2⟩
                have g2 := hc2 j y hy
                have HXX := keep hx
                have HYY := keep hy
                obtain ⟨⟨k0, k1, k2, k3, k4, k5, k6, k7⟩, f7, hbg, hgw⟩ := HB5.out.cells hx
                obtain ⟨sk, sn, st, ⟨s1, s2, s3, s4⟩, sa⟩ := x
                obtain ⟨⟨tk, tn, tt, ⟨r1, r2, r3, r4⟩, ta⟩, p⟩ := y
                have d0 := (HW5.out.cell hB2).trans (g2 0 _ rfl)
                have d1 := (HW5.out.cell hB2).trans (g2 1 _ rfl)
                have d2 := (HW5.out.cell hB2).trans (g2 2 _ rfl)
                have d3 := (HW5.out.cell hB2).trans (g2 3 _ rfl)
                have d4 := (HW5.out.cell hB2).trans (g2 4 _ rfl)
                have d5 := (HW5.out.cell hB2).trans (g2 5 _ rfl)
                have d6 := (HW5.out.cell hB2).trans (g2 6 _ rfl)
                have d7 := (HW5.out.cell hB2).trans (g2 7 _ rfl)
                simp only [Nat.add_zero, ← Nat.add_assoc] at d0 d1 d2 d3 d4 d5 d6 d7
                have hbb : b2 < wq.heap.size := Nat.lt_of_lt_of_le hB2 HW5.out.size
                have hne : g ≠ b2 := by have := HWS.out; omega
                have hgb : w.heap.size ≤ g := by have := HWS.out; omega
                have HBK := Lib.hid (HB5.out.stored (.int .i64 p))
                have HW6 := Lib.hid (HW5.out.setCell hgb (p := ⟨g, j * 8 + 7, none⟩) (.int .i64 p)) 
                have e7 := World.cell?_setCell_same' wq ⟨g, j * 8 + 7, none⟩ (.int .i64 p) (by rw [k7]; rfl)
                have e0 := (World.cell?_setCell_other (w := wq) (a := ⟨g, j * 8 + 7, none⟩) (v := .int .i64 p) (b := ⟨g, j * 8, none⟩) (h := fun h => by injection h; omega)).trans k0
                have e1 := (World.cell?_setCell_other (w := wq) (a := ⟨g, j * 8 + 7, none⟩) (v := .int .i64 p) (b := ⟨g, j * 8 + 1, none⟩) (h := fun h => by injection h; omega)).trans k1
                have e2 := (World.cell?_setCell_other (w := wq) (a := ⟨g, j * 8 + 7, none⟩) (v := .int .i64 p) (b := ⟨g, j * 8 + 2, none⟩) (h := fun h => by injection h; omega)).trans k2
                have e3 := (World.cell?_setCell_other (w := wq) (a := ⟨g, j * 8 + 7, none⟩) (v := .int .i64 p) (b := ⟨g, j * 8 + 3, none⟩) (h := fun h => by injection h; omega)).trans k3
                have e4 := (World.cell?_setCell_other (w := wq) (a := ⟨g, j * 8 + 7, none⟩) (v := .int .i64 p) (b := ⟨g, j * 8 + 4, none⟩) (h := fun h => by injection h; omega)).trans k4
                have e5 := (World.cell?_setCell_other (w := wq) (a := ⟨g, j * 8 + 7, none⟩) (v := .int .i64 p) (b := ⟨g, j * 8 + 5, none⟩) (h := fun h => by injection h; omega)).trans k5
                have e6 := (World.cell?_setCell_other (w := wq) (a := ⟨g, j * 8 + 7, none⟩) (v := .int .i64 p) (b := ⟨g, j * 8 + 6, none⟩) (h := fun h => by injection h; omega)).trans k6
                have HY8 := keep (show ∀ m v, (rowI (⟨tk, tn, tt, ⟨r1, r2, r3, r4⟩, ta⟩, p))[m]? = some v → (wq.setCell ⟨g, j * 8 + 7, none⟩ (.int .i64 p)).cell? ⟨b2, o2 + (j * 8 + m), none⟩ = some v from fun m v h => (HW6.out.cell hB2).trans (g2 m v h))
                have HE := keep (And.intro e0 (And.intro e1 (And.intro e2 (And.intro e3 (And.intro e4 (And.intro e5 (And.intro e6 e7)))))))
                clear e0 e1 e2 e3 e4 e5 e6 e7 hj1 hj2 hc2 g2 hx hy hB2
                have hm : (j : Int) < m2 := hlt2
                go_upto_region 19 with fail
                clear k0 k1 k2 k3 k4 k5 k6 k7 f7 d0 d1 d2 d3 d4 d5 d6 d7
                generalize wq.setCell ⟨g, j * 8 + 7, none⟩ (.int .i64 p) = W6 at HBK HW6 HE HY8 ⊢
                obtain ⟨k0, k1, k2, k3, k4, k5, k6, k7⟩ := HE.out
                have d0 := HY8.out 0 _ rfl
                have d1 := HY8.out 1 _ rfl
                have d2 := HY8.out 2 _ rfl
                have d3 := HY8.out 3 _ rfl
                have d4 := HY8.out 4 _ rfl
                have d5 := HY8.out 5 _ rfl
                have d6 := HY8.out 6 _ rfl
                have d7 := HY8.out 7 _ rfl
                simp only [Nat.add_zero, ← Nat.add_assoc] at d0 d1 d2 d3 d4 d5 d6 d7
                go_region_held3 (fun w' => w'.cell? ⟨g, j * 8, none⟩ = some (.int .u8 sk) ∧ w'.cell? ⟨g, j * 8 + 1, none⟩ = some (.int .i64 sn) ∧ w'.cell? ⟨g, j * 8 + 2, none⟩ = some (.string ⟨st.toArray⟩) ∧ w'.cell? ⟨g, j * 8 + 3, none⟩ = some (.int .i64 s1) ∧ w'.cell? ⟨g, j * 8 + 4, none⟩ = some (.int .i64 s2) ∧ w'.cell? ⟨g, j * 8 + 5, none⟩ = some (.int .i64 s3) ∧ w'.cell? ⟨g, j * 8 + 6, none⟩ = some (.int .i64 s4) ∧ w'.cell? ⟨g, j * 8 + 7, none⟩ = some (.int .i64 p) ∧ w'.cell? ⟨b2, o2 + j * 8, none⟩ = some (.int .u8 tk) ∧ w'.cell? ⟨b2, o2 + j * 8 + 1, none⟩ = some (.int .i64 tn) ∧ w'.cell? ⟨b2, o2 + j * 8 + 2, none⟩ = some (.string ⟨tt.toArray⟩) ∧ w'.cell? ⟨b2, o2 + j * 8 + 3, none⟩ = some (.int .i64 r1) ∧ w'.cell? ⟨b2, o2 + j * 8 + 4, none⟩ = some (.int .i64 r2) ∧ w'.cell? ⟨b2, o2 + j * 8 + 5, none⟩ = some (.int .i64 r3) ∧ w'.cell? ⟨b2, o2 + j * 8 + 6, none⟩ = some (.int .i64 r4) ∧ w'.cell? ⟨b2, o2 + j * 8 + 7, none⟩ = some (.int .i64 p)) (go_keep) (fail)
                have hq8 : eq8 sk sn s1 s2 s3 s4 p tk tn r1 r2 r3 r4 p st tt = sameB ⟨sk, sn, st, ⟨s1, s2, s3, s4⟩, sa⟩ ⟨tk, tn, tt, ⟨r1, r2, r3, r4⟩, ta⟩ := by
                  unfold eq8 sameB
                  rw [Bool.eq_iff_iff]
                  simp only [Bool.and_eq_true, decide_eq_true_eq, and_true]
                  rw [Int.ofNat_inj]
                have HQ8 := keep hq8
                clear hq8
                go_wp2_with fail
                · rename_i hne
                  have hne2 : (!eq8 sk sn s1 s2 s3 s4 p tk tn r1 r2 r3 r4 p st tt) = true := hne
                  rw [HQ8.out] at hne2
                  have HQ := keep hne2
                  clear hne hne2
                  refine bodyPost_ret (v := .tuple #[.string ⟨#[]⟩, .int .i64 4]) (by simp [results, Tryz.results23, go_sem]) rfl ⟨?_, HW6.out.drew⟩
                  rw [write_form HC2.out HX.out HLL.out (by
                    rw [HT.out]
                    rintro ⟨-, h9⟩
                    have h8 := sameL_at (l := ts2) h9 HXX.out (fst_at HYY.out)
                    have h7 := HQ.out
                    rw [h8] at h7
                    cases h7)]
                · rename_i hne
                  have hne2 : (!eq8 sk sn s1 s2 s3 s4 p tk tn r1 r2 r3 r4 p st tt) = false := hne
                  rw [HQ8.out] at hne2
                  have HQ := keep (show sameB ⟨sk, sn, st, ⟨s1, s2, s3, s4⟩, sa⟩ ⟨tk, tn, tt, ⟨r1, r2, r3, r4⟩, ta⟩ = true by simpa using hne2)
                  clear hne hne2
                  go_roundw
                  case rel => exact ⟨j + 1, by omega, by go_num, keep (sameL_add HS.out HXX.out (fst_at HYY.out) HQ.out), Lib.hid (HBK.out.kept ((Below.refl _ _).drew)), Lib.hid HW6.out.drew⟩
                  case measure => simp [intOf]; omega
              · go_wp2_with fail
                refine bodyPost_ret (v := .tuple #[.string X, .int .i64 0]) (by simp [results, Tryz.results23, go_sem]) rfl ⟨?_, HW5.out⟩
                have h9 := HS.out
                have h8 := HL.out
                have h7 := HM2.out
                rw [List.take_of_length_le (by omega), List.take_of_length_le (by rw [List.length_map]; omega)] at h9
                rw [write_done HC2.out HX.out HLL.out (by rw [HT.out]; exact ⟨rfl, h9⟩)]
          · have e3 : (((ts2.length : Nat) : Int) != ((k : Nat) : Int)) = true := by simp; omega
            go_wp2_with fail
            refine bodyPost_ret (v := .tuple #[.string ⟨#[]⟩, .int .i64 4]) (by simp [results, Tryz.results23, go_sem]) rfl ⟨?_, HW4.out⟩
            rw [write_form HC2.out HX.out HLL.out (by rw [HT.out]; rintro ⟨-, h9⟩; have h8 : ts2.length = (ts.map Prod.fst).length := sameL_len h9; rw [List.length_map] at h8; have := HL.out; omega)]
        · have e3 : (e2 != 0) = true := by simp [he2]
          go_wp2_with fail
          refine bodyPost_ret (v := .tuple #[.string ⟨#[]⟩, .int .i64 4]) (by simp [results, Tryz.results23, go_sem]) rfl ⟨?_, HW4.out⟩
          rw [write_form HC2.out HX.out HLL.out (by rw [HT.out]; rintro ⟨h9, -⟩; exact he2 h9)]
end Go.Proofs.YtlngjiibbcgkmaaGreatDoor
