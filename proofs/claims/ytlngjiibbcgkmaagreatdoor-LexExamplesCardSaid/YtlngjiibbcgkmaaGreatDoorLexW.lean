/- LexWrites: the walk. -/
import Derived.Test.YtlngjiibbcgkmaaGreatDoorWri3
import Derived.Test.YtlngjiibbcgkmaaGreatDoorLexT
namespace Go.Proofs.YtlngjiibbcgkmaaGreatDoor
open Go.RowKit

def cellsI (ts : List (Tk × Int)) : List Value := ts.flatMap rowI
theorem cellsI_len (ts : List (Tk × Int)) : (cellsI ts).length = ts.length * 8 := by
  unfold cellsI
  induction ts with
  | nil => rfl
  | cons t l ih => rw [List.flatMap_cons, List.length_append, ih, List.length_cons]; show 8 + _ = _; omega
theorem cellsI_one (ts : List (Tk × Int)) : ∀ u ∈ cellsI ts, u.oneCell' = true := by
  intro u hu
  unfold cellsI at hu
  obtain ⟨t, -, ht⟩ := List.mem_flatMap.1 hu
  simp [rowI] at ht
  rcases ht with rfl | rfl | rfl | rfl | rfl | rfl | rfl | rfl <;> rfl
theorem tks_ownI {w : World} {base : Nat} {v : Value} {ts : List (Tk × Int)} (h : w.ownsRow base 43 8 v ts.length (cellsI ts)) : ∃ a c, v = .slice a ts.length c ∧ TksAt w a c ts := by
  have hc := @World.ownsRow.cells _ _ _ _ _ _ _ h
  have hlt := h.lt
  rcases h.2 with ⟨rfl, h0⟩ | ⟨g, cap, cur, rfl, h4, h5, h6, h7, h8, h9⟩
  · refine ⟨none, 0, by rw [h0], by omega, by omega, fun hne => ?_⟩
    rw [List.length_eq_zero_iff.1 h0] at hne
    exact absurd rfl hne
  · refine ⟨_, cap, rfl, h6, by unfold maxLen at h7; omega, fun _ => ⟨g, 0, rfl, (hlt g rfl).2, fun i r hi j v hj => ?_⟩⟩
    have h10 := hc rfl _ v (flat_atW rowI 8 (fun _ => rfl) ts i r hi j v hj)
    rw [show (⟨g, 0, none⟩ : Addr).add (i * 8 + j) = ⟨g, 0 + (i * 8 + j), none⟩ by unfold Addr.add; split <;> simp_all] at h10
    exact h10
theorem copy_tokens (ts : List (Tk × Int)) (v : Value) (B : Nat) (w : World) (h : w.ownsRow B 43 8 v ts.length (cellsI ts)) (hv : ts.length = 0 → v = .slice none 0 0) (hn : ts.length ≤ 300) :
    Calls Tryz.prog 21 #[v] w fun e w' => ∃ u, e = .returned u ∧ w'.ownsRow w.heap.size 43 8 u ts.length (cellsI ts) ∧ Below w.heap.size w w' := by
  obtain ⟨i0, hi, hz0, hz1, hz2⟩ := info_parts info_tok
  obtain ⟨n, hnn⟩ : ∃ n, ts.length = n := ⟨_, rfl⟩
  have HN := keep hnn
  rw [hnn] at h hv hn ⊢
  have hcl := cellsI_len ts
  rw [hnn] at hcl
  have HCL := keep hcl
  have HONE := keep (cellsI_one ts)
  generalize cellsI ts = xs at h HCL HONE ⊢
  clear hnn hcl
  have H0 := Lib.hid (OkRow.start (Ok.start w) 43 8)
  by_cases h0 : n = 0
  · subst h0
    obtain rfl := hv rfl
    obtain rfl : xs = [] := List.length_eq_zero_iff.1 (by rw [HCL.out])
    have hap : (Builtin.append_ #[38, 38] 38 #[.slice none 0 0, .slice none 0 0]).run Tryz.prog w = .ok (.slice none 0 0) w := by
      exact run_append_owned_none (w := w) (base := w.heap.size) (t := 38) (ty := 38) (e := 43) (i := i0) (size := 8) (ht := Tryz.underlying38) (hi := hi) (v := .slice none 0 0) (n := 0) (xs := []) (hown := World.ownsRow_nil _ _ _ _)
    go_enter Tryz.func21, Tryz.ntmps21
    go_wp2_with fail
    go_ret
    exact ⟨_, rfl, World.ownsRow_nil _ _ _ _, Below.refl _ _⟩
  · obtain ⟨g, cap, rfl, -, -⟩ := h.form (by omega)
    have HOW := Lib.hid h
    clear h hv
    go_enter Tryz.func21, Tryz.ntmps21
    go_wp2_with (at_builtin; refine wpList_append_lies _ rfl _ _ _ rfl w.heap.size 43 i0 _ 8 72 Tryz.underlying38 hi hz0 hz1 hz2 rfl (by omega) _ _ _ rfl H0.out.own ⟨g, 0, none⟩ n cap xs rfl (by rw [HCL.out]) (World.ownsRow.cells HOW.out (g := g) rfl) HONE.out (by omega) (by unfold maxLen; omega) (by omega) (Nat.le_refl _) _ rfl ?_; intro g3 cap3 w3 hown3 hgrow3 hat3 hlt3)
    go_ret
    have h9 := H0.out.appended hown3 hgrow3 hat3
    exact ⟨.slice (some ⟨g3, 0, none⟩) n cap3, rfl, by have h8 := h9.own; rwa [Nat.zero_add, List.nil_append] at h8, h9.ok.bel⟩
/-- a token whose text is cut -/
def cutI (x : Tk × Int) : Tk × Int := ({ x.1 with text := x.1.text.take 300 }, x.2)
def Tk.numIn (t : Tk) : Prop := -9223372036854775808 ≤ t.num ∧ t.num ≤ 9223372036854775807
theorem cut_fits {x : Tk × Int} (h : x.1.numIn) : (cutI x).1.fits := by
  obtain ⟨h1, h2⟩ := h
  refine ⟨h1, h2, ?_⟩
  show (x.1.text.take 300).length ≤ _
  rw [List.length_take]
  omega
set_option maxRecDepth 100000 in
set_option maxHeartbeats 8000000 in
theorem law_LexWrites (ts : List (Tk × Int)) (a : Option Addr) (c : Nat) (w : World) (ha : TksAt w a c ts) (hf : ∀ t ∈ ts, t.1.numIn) (he : WEnv w) :
    Calls Tryz.prog 6 #[.slice a ts.length c] w fun e w' => e = .returned (.bool true) ∧ Below w.heap.size w w' := by
  obtain ⟨i0, hi, hz0, hz1, hz2⟩ := info_parts info_tok
  obtain ⟨N, hl⟩ : ∃ N, ts.length = N := ⟨_, rfl⟩
  rw [hl]
  have HL := keep hl
  have HA := keep ha
  have HF := keep hf
  have HE := keep he
  clear hl ha hf he
  go_enter Tryz.func6, Tryz.ntmps6
  go_wp2_with fail
  go_loopw [3, 4] (fun ov iv wr => ∃ k : Nat, k ≤ N ∧ k ≤ 300 ∧ iv = .int .i64 (k : Int) ∧ Keep (k = 0 → ov = .slice none 0 0) ∧ Hid (OkRow w [] 43 8 ov k (cellsI ((ts.take k).map cutI)) wr)) (fun _ iv _ => 300 - (intOf iv).toNat)
  case atStart => exact ⟨0, Nat.zero_le _, by decide, rfl, keep (fun _ => rfl), Lib.hid (OkRow.start (Ok.start w) _ _)⟩
  case round =>
    obtain ⟨k, hk, hk3, rfl, HV, HR⟩ := hrel
    obtain ⟨wp, rfl⟩ : ∃ wp : World, wp = wr := ⟨_, rfl⟩
    obtain ⟨ov, rfl⟩ : ∃ ov : Value, ov = u3 := ⟨_, rfl⟩
    by_cases hlt : (k : Int) < N
    · by_cases hl3 : (k : Int) < 300
      · have hil : k < ts.length := by rw [HL.out]; omega
        obtain ⟨x, hx⟩ : ∃ x, ts[k] = x := ⟨_, rfl⟩
        obtain ⟨b1, o1, ha1, hB1, hc1⟩ := HA.out.at_ (by intro e; rw [e] at hil; simp at hil)
        subst ha1
        have hgk : ts[k]? = some x := by rw [List.getElem?_eq_getElem hil, hx]
        have g1 := hc1 k x hgk
        have HTK := keep (show (ts.take (k + 1)).map cutI = (ts.take k).map cutI ++ [cutI x] by rw [List.take_succ_eq_append_getElem hil, List.map_append, hx]; rfl)
        obtain ⟨⟨tk, tn, tt, ⟨r1, r2, r3, r4⟩, ta⟩, p⟩ := x
        have c0 := (HR.out.ok.bel.cell hB1).trans (g1 0 _ rfl)
        have c1 := (HR.out.ok.bel.cell hB1).trans (g1 1 _ rfl)
        have c2 := (HR.out.ok.bel.cell hB1).trans (g1 2 _ rfl)
        have c3 := (HR.out.ok.bel.cell hB1).trans (g1 3 _ rfl)
        have c4 := (HR.out.ok.bel.cell hB1).trans (g1 4 _ rfl)
        have c5 := (HR.out.ok.bel.cell hB1).trans (g1 5 _ rfl)
        have c6 := (HR.out.ok.bel.cell hB1).trans (g1 6 _ rfl)
        have c7 := (HR.out.ok.bel.cell hB1).trans (g1 7 _ rfl)
        simp only [Nat.add_zero, ← Nat.add_assoc] at c0 c1 c2 c3 c4 c5 c6 c7
        have hb1 : b1 < wp.heap.size := Nat.lt_of_lt_of_le hB1 HR.out.ok.bel.size
        have hcap : k < c := Nat.lt_of_lt_of_le hil HA.out.le
        have hsz : w.heap.size ≤ wp.heap.size := HR.out.ok.bel.size
        clear hil hx hc1 g1 hgk hB1
        obtain ⟨S, hS⟩ : ∃ S : ByteArray, S = ⟨tt.toArray⟩ := ⟨_, rfl⟩
        have HSD := keep (show S.data.toList = tt by rw [hS])
        rw [← hS] at c2
        clear hS
        go_upto_region 7 with fail
        clear c0 c1 c2 c3 c4 c5 c6 c7
        have hX1 := cut_len S 300
        rw [show (((300 : Nat) : Int)) = 300 from rfl] at hX1
        have HXD := keep (show (S.extract 0 (min (S.size : Int) 300).toNat).data.toList = tt.take 300 by
          have h9 : S.data.toList.length = S.size := by rw [Array.length_toList]; rfl
          rw [Lib.extract_data, HSD.out, List.drop_zero, Nat.sub_zero]
          rw [HSD.out] at h9
          by_cases h8 : S.size ≤ 300
          · rw [List.take_of_length_le (by omega), List.take_of_length_le (by omega)]
          · congr 1; omega)
        generalize S.extract 0 (min (S.size : Int) 300).toNat = X at hX1 HXD ⊢
        have hbW : Below wp.heap.size wp (wp.alloc (.cells #[.int .u8 tk, .int .i64 tn, .string X, .int .i64 r1, .int .i64 r2, .int .i64 r3, .int .i64 r4, .int .i64 p] 43)) := (Below.refl _ _).alloc (Nat.le_refl _) _
        have hblk : Blk (wp.alloc (.cells #[.int .u8 tk, .int .i64 tn, .string X, .int .i64 r1, .int .i64 r2, .int .i64 r3, .int .i64 r4, .int .i64 p] 43)) wp.heap.size 43 #[.int .u8 tk, .int .i64 tn, .string X, .int .i64 r1, .int .i64 r2, .int .i64 r3, .int .i64 r4, .int .i64 p] := Blk.new wp 43 #[.int .u8 tk, .int .i64 tn, .string X, .int .i64 r1, .int .i64 r2, .int .i64 r3, .int .i64 r4, .int .i64 p]
        generalize (wp.alloc (.cells #[.int .u8 tk, .int .i64 tn, .string X, .int .i64 r1, .int .i64 r2, .int .i64 r3, .int .i64 r4, .int .i64 p] 43)) = W1 at hbW hblk ⊢
        have HR1 := Lib.hid (HR.out.below hbW)
        have e0 := hblk.cell 0
        have e1 := hblk.cell 1
        have e2 := hblk.cell 2
        have e3 := hblk.cell 3
        have e4 := hblk.cell 4
        have e5 := hblk.cell 5
        have e6 := hblk.cell 6
        have e7 := hblk.cell 7
        simp at e0 e1 e2 e3 e4 e5 e6 e7
        have elt := hblk.lt
        have HSZ1 := HR1.out.ok.bel.size
        have HXT := keep (show cellsI ((ts.take (k + 1)).map cutI) = cellsI ((ts.take k).map cutI) ++ [.int .u8 tk, .int .i64 tn, .string X, .int .i64 r1, .int .i64 r2, .int .i64 r3, .int .i64 r4, .int .i64 p] by
          rw [HTK.out]
          unfold cellsI
          rw [List.flatMap_append, List.flatMap_singleton]
          unfold cutI rowI
          rw [← HXD.out])
        clear hbW hblk HR hsz
        go_wp2_with (at_builtin; refine wpList_append_lies _ rfl _ _ _ rfl w.heap.size 43 i0 _ 8 72 Tryz.underlying38 hi hz0 hz1 hz2 rfl (by omega) _ _ _ rfl (HR1.out.own.alloc _) ⟨W1.heap.size, 0, none⟩ 1 1 [.int .u8 tk, .int .i64 tn, .string X, .int .i64 r1, .int .i64 r2, .int .i64 r3, .int .i64 r4, .int .i64 p] rfl rfl (World.news_of_block (cs := #[.int .u8 tk, .int .i64 tn, .string X, .int .i64 r1, .int .i64 r2, .int .i64 r3, .int .i64 r4, .int .i64 p]) (t := 43) (fr := (0, 0)) (heap_alloc_new _ _)) (by intro u hu; simp at hu; rcases hu with rfl | rfl | rfl | rfl | rfl | rfl | rfl | rfl <;> rfl) (by omega) (by unfold maxLen; omega) (by omega) (by simp; omega) _ rfl ?_; intro g cap w3 hown3 hgrow3 hat3 hlt3)
        clear e0 e1 e2 e3 e4 e5 e6 e7
        go_roundw
        case rel => exact ⟨k + 1, by omega, by omega, by go_num, keep (fun h => by omega), Lib.hid (by rw [HXT.out]; exact (HR1.out.alloc_obj _).appended hown3 hgrow3 hat3)⟩
        case measure => simp [intOf]; omega
      · have hus : ((ts.take k).map cutI).length = k := by rw [List.length_map, List.length_take, HL.out]; omega
        have HUF := keep (show ∀ t ∈ (ts.take k).map cutI, t.1.fits from fun t ht => by
          obtain ⟨x, hx, rfl⟩ := List.mem_map.1 ht
          exact cut_fits (HF.out x (List.mem_of_mem_take hx)))
        have hown := HR.out.own
        have HBW := Lib.hid HR.out.ok.bel
        have hov := HV.out
        obtain ⟨us, hUS⟩ : ∃ us, (ts.take k).map cutI = us := ⟨_, rfl⟩
        rw [hUS] at hus hown HUF
        subst hus
        have hn300 : us.length ≤ 300 := by omega
        have HOW := Lib.hid hown
        have HOV := keep hov
        obtain ⟨a1, c1, hv1, hat⟩ := tks_ownI hown
        have HA1 := keep hat
        clear HV HR hown hov hat hUS
        subst hv1
        go_wp2_with fail
        refine (copy_tokens us _ w.heap.size _ HOW.out HOV.out hn300).mono ?_
        rintro e w1 ⟨u, rfl, hown, hb⟩
        obtain ⟨a2, c2, rfl, hat⟩ := tks_ownI hown
        have HA2 := keep (HA1.out.below hb)
        have HB2 := keep hat
        have HW2 := Lib.hid (HBW.out.trans (hb.mono HBW.out.size))
        clear HOW HOV HA1 HBW hown hat hb
        obtain ⟨x0, e0, hwr⟩ : ∃ x0 e0, writeS (us.map Prod.fst) = (x0, e0) := ⟨_, _, rfl⟩
        have HWR := keep hwr
        clear hwr
        go_wp2_with fail
        refine (lex_Write us a2 c2 _ HB2.out HUF.out (HE.out.below HW2.out) (by omega)).mono ?_
        rintro e w3 ⟨rfl, hb⟩
        rw [HWR.out]
        have HA3 := keep (HA2.out.below hb)
        have HB3 := keep (HB2.out.below hb)
        have HW3 := Lib.hid (HW2.out.trans (hb.mono HW2.out.size))
        clear HA2 HB2 HW2 hb
        simp only []
        go_wp2_with fail
        refine (ref7_Write us a1 c1 _ HA3.out HUF.out (by omega)).mono ?_
        rintro e w4 ⟨rfl, hb⟩
        rw [HWR.out]
        have HA4 := keep (HA3.out.below hb)
        have HB4 := keep (HB3.out.below hb)
        have HW4 := Lib.hid (HW3.out.trans (hb.mono HW3.out.size))
        clear HA3 HB3 HW3 hb
        simp only []
        obtain ⟨X, hX⟩ : ∃ X : ByteArray, X = ⟨x0.toArray⟩ := ⟨_, rfl⟩
        rw [← hX]
        clear hX
        go_wp2_with fail
        refine (equal_tokens us a2 a1 c2 c1 _ HB4.out HA4.out (by omega)).mono ?_
        rintro e w5 ⟨rfl, hb⟩
        have HW5 := Lib.hid (HW4.out.trans (hb.mono HW4.out.size))
        clear hb HA4 HB4 HW4
        go_wp2_with fail
        refine (law_awake7 _ (HE.out.below HW5.out)).mono ?_
        rintro e w6 ⟨rfl, hb⟩
        have HW6 := Lib.hid (HW5.out.trans (hb.mono HW5.out.size))
        clear hb
        go_wp2_with fail
        go_ret
        exact ⟨rfl, HW6.out⟩
    · have hus : ((ts.take k).map cutI).length = k := by rw [List.length_map, List.length_take, HL.out]; omega
      have HUF := keep (show ∀ t ∈ (ts.take k).map cutI, t.1.fits from fun t ht => by
        obtain ⟨x, hx, rfl⟩ := List.mem_map.1 ht
        exact cut_fits (HF.out x (List.mem_of_mem_take hx)))
      have hown := HR.out.own
      have HBW := Lib.hid HR.out.ok.bel
      have hov := HV.out
      obtain ⟨us, hUS⟩ : ∃ us, (ts.take k).map cutI = us := ⟨_, rfl⟩
      rw [hUS] at hus hown HUF
      subst hus
      have hn300 : us.length ≤ 300 := by omega
      have HOW := Lib.hid hown
      have HOV := keep hov
      obtain ⟨a1, c1, hv1, hat⟩ := tks_ownI hown
      have HA1 := keep hat
      clear HV HR hown hov hat hUS
      subst hv1
      go_wp2_with fail
      refine (copy_tokens us _ w.heap.size _ HOW.out HOV.out hn300).mono ?_
      rintro e w1 ⟨u, rfl, hown, hb⟩
      obtain ⟨a2, c2, rfl, hat⟩ := tks_ownI hown
      have HA2 := keep (HA1.out.below hb)
      have HB2 := keep hat
      have HW2 := Lib.hid (HBW.out.trans (hb.mono HBW.out.size))
      clear HOW HOV HA1 HBW hown hat hb
      obtain ⟨x0, e0, hwr⟩ : ∃ x0 e0, writeS (us.map Prod.fst) = (x0, e0) := ⟨_, _, rfl⟩
      have HWR := keep hwr
      clear hwr
      go_wp2_with fail
      refine (lex_Write us a2 c2 _ HB2.out HUF.out (HE.out.below HW2.out) (by omega)).mono ?_
      rintro e w3 ⟨rfl, hb⟩
      rw [HWR.out]
      have HA3 := keep (HA2.out.below hb)
      have HB3 := keep (HB2.out.below hb)
      have HW3 := Lib.hid (HW2.out.trans (hb.mono HW2.out.size))
      clear HA2 HB2 HW2 hb
      simp only []
      go_wp2_with fail
      refine (ref7_Write us a1 c1 _ HA3.out HUF.out (by omega)).mono ?_
      rintro e w4 ⟨rfl, hb⟩
      rw [HWR.out]
      have HA4 := keep (HA3.out.below hb)
      have HB4 := keep (HB3.out.below hb)
      have HW4 := Lib.hid (HW3.out.trans (hb.mono HW3.out.size))
      clear HA3 HB3 HW3 hb
      simp only []
      obtain ⟨X, hX⟩ : ∃ X : ByteArray, X = ⟨x0.toArray⟩ := ⟨_, rfl⟩
      rw [← hX]
      clear hX
      go_wp2_with fail
      refine (equal_tokens us a2 a1 c2 c1 _ HB4.out HA4.out (by omega)).mono ?_
      rintro e w5 ⟨rfl, hb⟩
      have HW5 := Lib.hid (HW4.out.trans (hb.mono HW4.out.size))
      clear hb HA4 HB4 HW4
      go_wp2_with fail
      refine (law_awake7 _ (HE.out.below HW5.out)).mono ?_
      rintro e w6 ⟨rfl, hb⟩
      have HW6 := Lib.hid (HW5.out.trans (hb.mono HW5.out.size))
      clear hb
      go_wp2_with fail
      go_ret
      exact ⟨rfl, HW6.out⟩
/-- a slice of tokens that was handed in -/
theorem eight {cs : List Value} (h : cs.length = 8) : ∃ v0 v1 v2 v3 v4 v5 v6 v7, cs = [v0, v1, v2, v3, v4, v5, v6, v7] := by
  match cs, h with
  | [v0, v1, v2, v3, v4, v5, v6, v7], _ => exact ⟨_, _, _, _, _, _, _, _, rfl⟩
end Go.Proofs.YtlngjiibbcgkmaaGreatDoor
