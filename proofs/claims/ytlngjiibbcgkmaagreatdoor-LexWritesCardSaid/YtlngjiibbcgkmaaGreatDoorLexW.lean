/- LexWrites: the walk. -/
import Derived.Test.YtlngjiibbcgkmaaGreatDoorWri3
import Derived.Test.YtlngjiibbcgkmaaGreatDoorLexT
namespace Go.Proofs.YtlngjiibbcgkmaaGreatDoor
open Go.RowKit

def cellsI (ts : List (Tk × Int)) : List Value := ts.flatMap rowI
theorem cellsI_len (ts : List (Tk × Int)) : (cellsI ts).length = ts.length * 8 := by
  unfold cellsI
  induction ts with
  | nil => rfl
  | cons t l ih => rw [List.flatMap_cons, List.length_append, ih, List.length_cons]; show 8 + _ = _; omega
theorem cellsI_one (ts : List (Tk × Int)) : ∀ u ∈ cellsI ts, u.oneCell' = true := by
  intro u hu
  unfold cellsI at hu
  obtain ⟨t, -, ht⟩ := List.mem_flatMap.1 hu
  simp [rowI] at ht
  rcases ht with rfl | rfl | rfl | rfl | rfl | rfl | rfl | rfl <;> rfl
theorem tks_ownI {w : World} {base : Nat} {v : Value} {ts : List (Tk × Int)} (h : w.ownsRow base 43 8 v ts.length (cellsI ts)) : ∃ a c, v = .slice a ts.length c ∧ TksAt w a c ts := by
  have hc := @World.ownsRow.cells _ _ _ _ _ _ _ h
  have hlt := h.lt
  rcases h.2 with ⟨rfl, h0⟩ | ⟨g, cap, cur, rfl, h4, h5, h6, h7, h8, h9⟩
  · refine ⟨none, 0, by rw [h0], by omega, by omega, fun hne => ?_⟩
    rw [List.length_eq_zero_iff.1 h0] at hne
    exact absurd rfl hne
  · refine ⟨_, cap, rfl, h6, by unfold maxLen at h7; omega, fun _ => ⟨g, 0, rfl, (hlt g rfl).2, fun i r hi j v hj => ?_⟩⟩
    have h10 := hc rfl _ v (flat_atW rowI 8 (fun _ => rfl) ts i r hi j v hj)
    rw [show (⟨g, 0, none⟩ : Addr).add (i * 8 + j) = ⟨g, 0 + (i * 8 + j), none⟩ by unfold Addr.add; split <;> simp_all] at h10
    exact h10
theorem copy_tokens (ts : List (Tk × Int)) (v : Value) (B : Nat) (w : World) (h : w.ownsRow B 43 8 v ts.length (cellsI ts)) (hv : ts.length = 0 → v = .slice none 0 0) (hn : ts.length ≤ 300) :
    Calls Tryz.prog 21 #[v] w fun e w' => ∃ u, e = .returned u ∧ w'.ownsRow w.heap.size 43 8 u ts.length (cellsI ts) ∧ Below w.heap.size w w' := by
  obtain ⟨i0, hi, hz0, hz1, hz2⟩ := info_parts info_tok
  obtain ⟨n, hnn⟩ : ∃ n, ts.length = n := ⟨_, rfl⟩
  have HN := keep hnn
  rw [hnn] at h hv hn ⊢
  have hcl := cellsI_len ts
  rw [hnn] at hcl
  have HCL := keep hcl
  have HONE := keep (cellsI_one ts)
  generalize cellsI ts = xs at h HCL HONE ⊢
  clear hnn hcl
  have H0 := Lib.hid (OkRow.start (Ok.start w) 43 8)
  by_cases h0 : n = 0
  · subst h0
    obtain rfl := hv rfl
    obtain rfl : xs = [] := List.length_eq_zero_iff.1 (by rw [HCL.out])
    have hap : (Builtin.append_ #[38, 38] 38 #[.slice none 0 0, .slice none 0 0]).run Tryz.prog w = .ok (.slice none 0 0) w := by
      exact run_append_owned_none (w := w) (base := w.heap.size) (t := 38) (ty := 38) (e := 43) (i := i0) (size := 8) (ht := Tryz.underlying38) (hi := hi) (v := .slice none 0 0) (n := 0) (xs := []) (hown := World.ownsRow_nil _ _ _ _)
    go_enter Tryz.func21, Tryz.ntmps21
    go_wp2_with fail
    go_ret
    exact ⟨_, rfl, World.ownsRow_nil _ _ _ _, Below.refl _ _⟩
  · obtain ⟨g, cap, rfl, -, -⟩ := h.form (by omega)
    have HOW := Lib.hid h
    clear h hv
    go_enter Tryz.func21, Tryz.ntmps21
    go_wp2_with (at_builtin; refine wpList_append_lies _ rfl _ _ _ rfl w.heap.size 43 i0 _ 8 72 Tryz.underlying38 hi hz0 hz1 hz2 rfl (by omega) _ _ _ rfl H0.out.own ⟨g, 0, none⟩ n cap xs rfl (by rw [HCL.out]) (World.ownsRow.cells HOW.out (g := g) rfl) HONE.out (by omega) (by unfold maxLen; omega) (by omega) (Nat.le_refl _) _ rfl ?_; intro g3 cap3 w3 hown3 hgrow3 hat3 hlt3)
    go_ret
    have h9 := H0.out.appended hown3 hgrow3 hat3
    exact ⟨.slice (some ⟨g3, 0, none⟩) n cap3, rfl, by have h8 := h9.own; rwa [Nat.zero_add, List.nil_append] at h8, h9.ok.bel⟩
/-- a token whose text is cut -/
def cutI (x : Tk × Int) : Tk × Int := ({ x.1 with text := x.1.text.take 300 }, x.2)
def Tk.numIn (t : Tk) : Prop := -9223372036854775808 ≤ t.num ∧ t.num ≤ 9223372036854775807
theorem cut_fits {x : Tk × Int} (h : x.1.numIn) : (cutI x).1.fits := by
  obtain ⟨h1, h2⟩ := h
  refine ⟨h1, h2, ?_⟩
  show (x.1.text.take 300).length ≤ _
  rw [List.length_take]
  omega
set_option maxRecDepth 100000 in
set_option maxHeartbeats 8000000 in
theorem law_LexWrites (ts : List (Tk × Int)) (a : Option Addr) (c : Nat) (w : World) (ha : TksAt w a c ts) (hf : ∀ t ∈ ts, t.1.numIn) (he : WEnv w) :
    Calls Tryz.prog 6 #[.slice a ts.length c] w fun e w' => e = .returned (.bool true) ∧ Below w.heap.size w w' := by
  obtain ⟨i0, hi, hz0, hz1, hz2⟩ := info_parts info_tok
  obtain ⟨N, hl⟩ : ∃ N, ts.length = N := ⟨_, rfl⟩
  rw [hl]
  have HL := keep hl
  have HA := keep ha
  have HF := keep hf
  have HE := keep he
  clear hl ha hf he
  go_enter Tryz.func6, Tryz.ntmps6
  go_wp2_with fail
  go_loopw [3, 4] (fun ov iv wr => ∃ k : Nat, k ≤ N ∧ k ≤ 300 ∧ iv = .int .i64 (k : Int) ∧ Keep (k = 0 → ov = .slice none 0 0) ∧ Hid (OkRow w [] 43 8 ov k (cellsI ((ts.take k).map cutI)) wr)) (fun _ iv _ => 300 - (intOf iv).toNat)
  case atStart => exact ⟨0, Nat.zero_le _, by decide, rfl, keep (fun _ => rfl), Lib.hid (OkRow.start (Ok.start w) _ _)⟩
  case round =>
    obtain ⟨k, hk, hk3, rfl, HV, HR⟩ := hrel
    obtain ⟨wp, rfl⟩ : ∃ wp : World, wp = wr := ⟨_, rfl⟩
    obtain ⟨ov, rfl⟩ : ∃ ov : Value, ov = u3 := ⟨_, rfl⟩
    by_cases hlt : (k : Int) < N
    · by_cases hl3 : (k : Int) < 300
      · have hil : k < ts.length := by rw [HL.out]; omega
        obtain ⟨x, hx⟩ : ∃ x, ts[k] = x := ⟨_, rfl⟩
        obtain ⟨b1, o1, ha1, hB1, hc1⟩ := HA.out.at_ (by intro e; rw [e] at hil; simp at hil)
        subst ha1
        have hgk : ts[k]? = some x := by rw [List.getElem?_eq_getElem hil, hx]
        have g1 := hc1 k x hgk
        have HTK := keep (show (ts.take (k + 1)).map cutI = (ts.take k).map cutI ++ [cutI x] by rw [List.take_succ_eq_append_getElem hil, List.map_append, hx]; rfl)
        obtain ⟨⟨tk, tn, tt, ⟨r1, r2, r3, r4⟩, ta⟩, p⟩ := x
        have c0 := (HR.out.ok.bel.cell hB1).trans (g1 0 _ rfl)
        have c1 := (HR.out.ok.bel.cell hB1).trans (g1 1 _ rfl)
        have c2 := (HR.out.ok.bel.cell hB1).trans (g1 2 _ rfl)
        have c3 := (HR.out.ok.bel.cell hB1).trans (g1 3 _ rfl)
        have c4 := (HR.out.ok.bel.cell hB1).trans (g1 4 _ rfl)
        have c5 := (HR.out.ok.bel.cell hB1).trans (g1 5 _ rfl)
        have c6 := (HR.out.ok.bel.cell hB1).trans (g1 6 _ rfl)
        have c7 := (HR.out.ok.bel.cell hB1).trans (g1 7 _ rfl)
        simp only [Nat.add_zero, ← Nat.add_assoc] at c0 c1 c2 c3 c4 c5 c6 c7
        have hb1 : b1 < wp.heap.size := Nat.lt_of_lt_of_le hB1 HR.out.ok.bel.size
        have hcap : k < c := Nat.lt_of_lt_of_le hil HA.out.le
        have hsz : w.heap.size ≤ wp.heap.size := HR.out.ok.bel.size
        clear hil hx hc1 g1 hgk hB1
        obtain ⟨S, hS⟩ : ∃ S : ByteArray, S = ⟨tt.toArray⟩ := ⟨_, rfl⟩
        have HSD := keep (show S.data.toList = tt by rw [hS])
        rw [← hS] at c2
        clear hS
        go_upto_region 7 with fail
        clear c0 c1 c2 c3 c4 c5 c6 c7
        have hX1 := cut_len S 300
        rw [show (((300 : Nat) : Int)) = 300 from rfl] at hX1
        have HXD := keep (show (S.extract 0 (min (S.size : Int) 300).toNat).data.toList = tt.take 300 by
          have h9 : S.data.toList.length = S.size := by rw [Array.length_toList]; rfl
          rw [Lib.extract_data, HSD.out, List.drop_zero, Nat.sub_zero]
          rw [HSD.out] at h9
          by_cases h8 : S.size ≤ 300
          · rw [List.take_of_length_le (by omega), List.take_of_length_le (by omega)]
          · congr 1; omega)
        generalize S.extract 0 (min (S.size : Int) 300).toNat = X at hX1 HXD ⊢
        have hbW : Below wp.heap.size wp (wp.alloc (.cells #[.int .u8 tk, .int .i64 tn, .string X, .int .i64 r1, .int .i64 r2, .int .i64 r3, .int .i64 r4, .int .i64 p] 43)) := (Below.refl _ _).alloc (Nat.le_refl _) _
        have hblk : Blk (wp.alloc (.cells #[.int .u8 tk, .int .i64 tn, .string X, .int .i64 r1, .int .i64 r2, .int .i64 r3, .int .i64 r4, .int .i64 p] 43)) wp.heap.size 43 #[.int .u8 tk, .int .i64 tn, .string X, .int .i64 r1, .int .i64 r2, .int .i64 r3, .int .i64 r4, .int .i64 p] := Blk.new wp 43 #[.int .u8 tk, .int .i64 tn, .string X, .int .i64 r1, .int .i64 r2, .int .i64 r3, .int .i64 r4, .int .i64 p]
        generalize (wp.alloc (.cells #[.int .u8 tk, .int .i64 tn, .string X, .int .i64 r1, .int .i64 r2, .int .i64 r3, .int .i64 r4, .int .i64 p] 43)) = W1 at hbW hblk ⊢
        have HR1 := Lib.hid (HR.out.below hbW)
        have e0 := hblk.cell 0
        have e1 := hblk.cell 1
        have e2 := hblk.cell 2
        have e3 := hblk.cell 3
        have e4 := hblk.cell 4
        have e5 := hblk.cell 5
        have e6 := hblk.cell 6
        have e7 := hblk.cell 7
        simp at e0 e1 e2 e3 e4 e5 e6 e7
        have elt := hblk.lt
        have HSZ1 := HR1.out.ok.bel.size
        have HXT := keep (show cellsI ((ts.take (k + 1)).map cutI) = cellsI ((ts.take k).map cutI) ++ [.int .u8 tk, .int .i64 tn, .string X, .int .i64 r1, .int .i64 r2, .int .i64 r3, .int .i64 r4, .int .i64 p] by
          rw [HTK.out]
          unfold cellsI
          rw [List.flatMap_append, List.flatMap_singleton]
          unfold cutI rowI
          rw [← HXD.out])
        clear hbW hblk HR hsz
        go_wp2_with (at_builtin; refine wpList_append_lies _ rfl _ _ _ rfl w.heap.size 43 i0 _ 8 72 Tryz.underlying38 hi hz0 hz1 hz2 rfl (by omega) _ _ _ rfl (HR1.out.own.alloc _) ⟨W1.heap.size, 0, none⟩ 1 1 [.int .u8 tk, .int .i64 tn, .string X, .int .i64 r1, .int .i64 r2, .int .i64 r3, .int .i64 r4, .int .i64 p] rfl rfl (World.news_of_block (cs := #[.int .u8 tk, .int .i64 tn, .string X, .int .i64 r1, .int .i64 r2, .int .i64 r3, .int .i64 r4, .int .i64 p]) (t := 43) (fr := (0, 0)) (heap_alloc_new _ _)) (by intro u hu; simp at hu; rcases hu with rfl | rfl | rfl | rfl | rfl | rfl | rfl | rfl <;> rfl) (by omega) (by unfold maxLen; omega) (by omega) (by simp; omega) _ rfl ?_; intro g cap w3 hown3 hgrow3 hat3 hlt3)
        clear e0 e1 e2 e3 e4 e5 e6 e7
        go_roundw
        case rel => exact ⟨k + 1, by omega, by omega, by go_num, keep (fun h => by omega), Lib.hid (by rw [HXT.out]; exact (HR1.out.alloc_obj _).appended hown3 hgrow3 hat3)⟩
        case measure => simp [intOf]; omega
      · have hus : ((ts.take k).map cutI).length = k := by rw [List.length_map, List.length_take, HL.out]; omega
        have HUF := keep (show ∀ t ∈ (ts.take k).map cutI, t.1.fits from fun t ht => by
          obtain ⟨x, hx, rfl⟩ := List.mem_map.1 ht
          exact cut_fits (HF.out x (List.mem_of_mem_take hx)))
        have hown := HR.out.own
        have HBW := Lib.hid HR.out.ok.bel
        have hov := HV.out
        obtain ⟨us, hUS⟩ : ∃ us, (ts.take k).map cutI = us := ⟨_, rfl⟩
        rw [hUS] at hus hown HUF
        subst hus
        have hn300 : us.length ≤ 300 := by omega
        have HOW := Lib.hid hown
        have HOV := keep hov
        obtain ⟨a1, c1, hv1, hat⟩ := tks_ownI hown
        have HA1 := keep hat
        clear HV HR hown hov hat hUS
        subst hv1
        go_wp2_with fail
        refine (copy_tokens us _ w.heap.size _ HOW.out HOV.out hn300).mono ?_
        rintro e w1 ⟨u, rfl, hown, hb⟩
        obtain ⟨a2, c2, rfl, hat⟩ := tks_ownI hown
        have HA2 := keep (HA1.out.below hb)
        have HB2 := keep hat
        have HW2 := Lib.hid (HBW.out.trans (hb.mono HBW.out.size))
        clear HOW HOV HA1 HBW hown hat hb
        obtain ⟨x0, e0, hwr⟩ : ∃ x0 e0, writeS (us.map Prod.fst) = (x0, e0) := ⟨_, _, rfl⟩
        have HWR := keep hwr
        clear hwr
        go_wp2_with fail
        refine (lex_Write us a2 c2 _ HB2.out HUF.out (HE.out.below HW2.out) (by omega)).mono ?_
        rintro e w3 ⟨rfl, hb⟩
        rw [HWR.out]
        have HA3 := keep (HA2.out.below hb)
        have HB3 := keep (HB2.out.below hb)
        have HW3 := Lib.hid (HW2.out.trans (hb.mono HW2.out.size))
        clear HA2 HB2 HW2 hb
        simp only []
        go_wp2_with fail
        refine (ref7_Write us a1 c1 _ HA3.out HUF.out (by omega)).mono ?_
        rintro e w4 ⟨rfl, hb⟩
        rw [HWR.out]
        have HA4 := keep (HA3.out.below hb)
        have HB4 := keep (HB3.out.below hb)
        have HW4 := Lib.hid (HW3.out.trans (hb.mono HW3.out.size))
        clear HA3 HB3 HW3 hb
        simp only []
        obtain ⟨X, hX⟩ : ∃ X : ByteArray, X = ⟨x0.toArray⟩ := ⟨_, rfl⟩
        rw [← hX]
        clear hX
        go_wp2_with fail
        refine (equal_tokens us a2 a1 c2 c1 _ HB4.out HA4.out (by omega)).mono ?_
        rintro e w5 ⟨rfl, hb⟩
        have HW5 := Lib.hid (HW4.out.trans (hb.mono HW4.out.size))
        clear hb HA4 HB4 HW4
        go_wp2_with fail
        refine (law_awake7 _ (HE.out.below HW5.out)).mono ?_
        rintro e w6 ⟨rfl, hb⟩
        have HW6 := Lib.hid (HW5.out.trans (hb.mono HW5.out.size))
        clear hb
        go_wp2_with fail
        go_ret
        exact ⟨rfl, HW6.out⟩
    · have hus : ((ts.take k).map cutI).length = k := by rw [List.length_map, List.length_take, HL.out]; omega
      have HUF := keep (show ∀ t ∈ (ts.take k).map cutI, t.1.fits from fun t ht => by
        obtain ⟨x, hx, rfl⟩ := List.mem_map.1 ht
        exact cut_fits (HF.out x (List.mem_of_mem_take hx)))
      have hown := HR.out.own
      have HBW := Lib.hid HR.out.ok.bel
      have hov := HV.out
      obtain ⟨us, hUS⟩ : ∃ us, (ts.take k).map cutI = us := ⟨_, rfl⟩
      rw [hUS] at hus hown HUF
      subst hus
      have hn300 : us.length ≤ 300 := by omega
      have HOW := Lib.hid hown
      have HOV := keep hov
      obtain ⟨a1, c1, hv1, hat⟩ := tks_ownI hown
      have HA1 := keep hat
      clear HV HR hown hov hat hUS
      subst hv1
      go_wp2_with fail
      refine (copy_tokens us _ w.heap.size _ HOW.out HOV.out hn300).mono ?_
      rintro e w1 ⟨u, rfl, hown, hb⟩
      obtain ⟨a2, c2, rfl, hat⟩ := tks_ownI hown
      have HA2 := keep (HA1.out.below hb)
      have HB2 := keep hat
      have HW2 := Lib.hid (HBW.out.trans (hb.mono HBW.out.size))
      clear HOW HOV HA1 HBW hown hat hb
      obtain ⟨x0, e0, hwr⟩ : ∃ x0 e0, writeS (us.map Prod.fst) = (x0, e0) := ⟨_, _, rfl⟩
      have HWR := keep hwr
      clear hwr
      go_wp2_with fail
      refine (lex_Write us a2 c2 _ HB2.out HUF.out (HE.out.below HW2.out) (by omega)).mono ?_
      rintro e w3 ⟨rfl, hb⟩
      rw [HWR.out]
      have HA3 := keep (HA2.out.below hb)
      have HB3 := keep (HB2.out.below hb)
      have HW3 := Lib.hid (HW2.out.trans (hb.mono HW2.out.size))
      clear HA2 HB2 HW2 hb
      simp only []
      go_wp2_with fail
      refine (ref7_Write us a1 c1 _ HA3.out HUF.out (by omega)).mono ?_
      rintro e w4 ⟨rfl, hb⟩
      rw [HWR.out]
      have HA4 := keep (HA3.out.below hb)
      have HB4 := keep (HB3.out.below hb)
      have HW4 := Lib.hid (HW3.out.trans (hb.mono HW3.out.size))
      clear HA3 HB3 HW3 hb
      simp only []
      obtain ⟨X, hX⟩ : ∃ X : ByteArray, X = ⟨x0.toArray⟩ := ⟨_, rfl⟩
      rw [← hX]
      clear hX
      go_wp2_with fail
      refine (equal_tokens us a2 a1 c2 c1 _ HB4.out HA4.out (by omega)).mono ?_
      rintro e w5 ⟨rfl, hb⟩
      have HW5 := Lib.hid (HW4.out.trans (hb.mono HW4.out.size))
      clear hb HA4 HB4 HW4
      go_wp2_with fail
      refine (law_awake7 _ (HE.out.below HW5.out)).mono ?_
      rintro e w6 ⟨rfl, hb⟩
      have HW6 := Lib.hid (HW5.out.trans (hb.mono HW5.out.size))
      clear hb
      go_wp2_with fail
      go_ret
      exact ⟨rfl, HW6.out⟩
/-- a slice of tokens that was handed in -/
theorem eight {cs : List Value} (h : cs.length = 8) : ∃ v0 v1 v2 v3 v4 v5 v6 v7, cs = [v0, v1, v2, v3, v4, v5, v6, v7] := by
  match cs, h with
  | [v0, v1, v2, v3, v4, v5, v6, v7], _ => exact ⟨_, _, _, _, _, _, _, _, rfl⟩
theorem open_tokens {H : Type} {enc : TypeId × Value → H} {w : World} {base : Nat} {spare : Nat → Bool} {held : Bool} {fuel : Nat} {cs : List Value} {x : DataW H × List MemPlace}
    (h : DataW.trod enc Tryz.prog w base spare held fuel 38 cs = some x) : cs = [.slice none 0 0] ∨ ∃ a len cap, cs = [.slice (some a) len cap] ∧ len ≤ cap ∧ cap ≤ maxLen ∧ ∀ i, i < len → ∃ t : Tk × Int, t.1.numIn ∧ ∀ j v, (rowI t)[j]? = some v → w.cell? (a.add (i * 8 + j)) = some v := by
  rcases Go.Deep.open_slice Tryz.underlying38 h with ⟨hcs, -⟩ | ⟨a, len, cap, m, n, D, Pl, hcs, hb, hl, hc, hm, -, hi⟩
  · exact .inl hcs
  · refine .inr ⟨a, len, cap, hcs, hl, hc, fun i hlt => ?_⟩
    obtain ⟨cs', hcell, ht⟩ := hi i (by rw [hm]; split <;> omega)
    rw [show Tryz.prog.cellsOf 43 = 8 by kernel_rfl] at hcell
    obtain ⟨-, hlen, hat⟩ := World.cells?_some hcell
    obtain ⟨ys, k, -, -, -, hyl, hf⟩ := DataW.trod_struct Tryz.underlying43 ht
    have hyl : ys.length = 5 := hyl
    obtain ⟨v0, v1, v2, v3, v4, v5, v6, v7, rfl⟩ := eight hlen
    have hy : ∀ j, j < 5 → ∃ y, ys[j]? = some y := fun j hj => ⟨_, List.getElem?_eq_getElem (by omega)⟩
    obtain ⟨y0, e0⟩ := hy 0 (by decide)
    obtain ⟨y1, e1⟩ := hy 1 (by decide)
    obtain ⟨y2, e2⟩ := hy 2 (by decide)
    obtain ⟨y3, e3⟩ := hy 3 (by decide)
    obtain ⟨y4, e4⟩ := hy 4 (by decide)
    have c1 : Tryz.prog.cellsOf 5 = 1 := by kernel_rfl
    have c2 : Tryz.prog.cellsOf 2 = 1 := by kernel_rfl
    have c3 : Tryz.prog.cellsOf 9 = 1 := by kernel_rfl
    have c4 : Tryz.prog.cellsOf 30 = 4 := by kernel_rfl
    have c5 : Tryz.prog.cellsOf 3 = 1 := by kernel_rfl
    have f0 : DataW.trod enc Tryz.prog w base spare held k 5 (([v0, v1, v2, v3, v4, v5, v6, v7].drop 0).take (Tryz.prog.cellsOf 5)) = ys[0]? := hf 0 _ rfl
    have f1 : DataW.trod enc Tryz.prog w base spare held k 2 (([v0, v1, v2, v3, v4, v5, v6, v7].drop 1).take (Tryz.prog.cellsOf 2)) = ys[1]? := hf 1 _ rfl
    have f2 : DataW.trod enc Tryz.prog w base spare held k 9 (([v0, v1, v2, v3, v4, v5, v6, v7].drop 2).take (Tryz.prog.cellsOf 9)) = ys[2]? := hf 2 _ rfl
    have f3 : DataW.trod enc Tryz.prog w base spare held k 30 (([v0, v1, v2, v3, v4, v5, v6, v7].drop 3).take (Tryz.prog.cellsOf 30)) = ys[3]? := hf 3 _ rfl
    have f4 : DataW.trod enc Tryz.prog w base spare held k 3 (([v0, v1, v2, v3, v4, v5, v6, v7].drop 7).take (Tryz.prog.cellsOf 3)) = ys[4]? := hf 4 _ rfl
    rw [c1, e0] at f0
    rw [c2, e1] at f1
    rw [c3, e2] at f2
    rw [c4, e3] at f3
    rw [c5, e4] at f4
    obtain ⟨n0, g0, -, w0⟩ := DataW.trod_int Tryz.underlying5 f0
    obtain ⟨n1, g1, -, w1⟩ := DataW.trod_int Tryz.underlying2 f1
    obtain ⟨s2, g2, -, w2⟩ := DataW.trod_string Tryz.underlying9 f2
    obtain ⟨n4, g4, -, -⟩ := DataW.trod_int Tryz.underlying3 f4
    obtain ⟨zs, k2, -, -, -, hzl, hz⟩ := DataW.trod_struct Tryz.underlying30 f3
    have hzl : zs.length = 4 := hzl
    have hy : ∀ j, j < 4 → ∃ y, zs[j]? = some y := fun j hj => ⟨_, List.getElem?_eq_getElem (by omega)⟩
    obtain ⟨x0, d0⟩ := hy 0 (by decide)
    obtain ⟨x1, d1⟩ := hy 1 (by decide)
    obtain ⟨x2, d2⟩ := hy 2 (by decide)
    obtain ⟨x3, d3⟩ := hy 3 (by decide)
    have h0 : DataW.trod enc Tryz.prog w base spare held k2 3 (((([v0, v1, v2, v3, v4, v5, v6, v7].drop 3).take 4).drop 0).take (Tryz.prog.cellsOf 3)) = zs[0]? := hz 0 _ rfl
    have h1 : DataW.trod enc Tryz.prog w base spare held k2 3 (((([v0, v1, v2, v3, v4, v5, v6, v7].drop 3).take 4).drop 1).take (Tryz.prog.cellsOf 3)) = zs[1]? := hz 1 _ rfl
    have h2 : DataW.trod enc Tryz.prog w base spare held k2 3 (((([v0, v1, v2, v3, v4, v5, v6, v7].drop 3).take 4).drop 2).take (Tryz.prog.cellsOf 3)) = zs[2]? := hz 2 _ rfl
    have h3 : DataW.trod enc Tryz.prog w base spare held k2 3 (((([v0, v1, v2, v3, v4, v5, v6, v7].drop 3).take 4).drop 3).take (Tryz.prog.cellsOf 3)) = zs[3]? := hz 3 _ rfl
    rw [c5, d0] at h0
    rw [c5, d1] at h1
    rw [c5, d2] at h2
    rw [c5, d3] at h3
    obtain ⟨r1, q1, -, -⟩ := DataW.trod_int Tryz.underlying3 h0
    obtain ⟨r2, q2, -, -⟩ := DataW.trod_int Tryz.underlying3 h1
    obtain ⟨r3, q3, -, -⟩ := DataW.trod_int Tryz.underlying3 h2
    obtain ⟨r4, q4, -, -⟩ := DataW.trod_int Tryz.underlying3 h3
    obtain ⟨b0, b1⟩ := bounds_i64 w1
    have hu : 0 ≤ n0 := by
      have := w0
      simp [Lit.wf] at this
      have h0 : IntKind.u8.min = 0 := rfl
      omega
    refine ⟨(⟨n0.toNat, n1, s2.data.toList, ⟨r1, r2, r3, r4⟩, 0⟩, n4), ⟨b0, b1⟩, fun j v hj => ?_⟩
    · rw [← add_add]
      rcases (show j = 0 ∨ j = 1 ∨ j = 2 ∨ j = 3 ∨ j = 4 ∨ j = 5 ∨ j = 6 ∨ j = 7 ∨ 8 ≤ j by omega) with rfl | rfl | rfl | rfl | rfl | rfl | rfl | rfl | hj8
      · rw [hat 0 (by decide)]
        simp [rowI] at hj ⊢
        simp at g0
        have hmx : max n0 0 = n0 := by omega
        rw [g0, ← hj, hmx]
      · rw [hat 1 (by decide)]; simp [rowI] at hj ⊢; simp at g1; rw [g1, hj]
      · rw [hat 2 (by decide)]; simp [rowI] at hj ⊢; simp at g2; rw [g2, ← hj]
      · rw [hat 3 (by decide)]; simp [rowI] at hj ⊢; simp at q1; rw [q1, hj]
      · rw [hat 4 (by decide)]; simp [rowI] at hj ⊢; simp at q2; rw [q2, hj]
      · rw [hat 5 (by decide)]; simp [rowI] at hj ⊢; simp at q3; rw [q3, hj]
      · rw [hat 6 (by decide)]; simp [rowI] at hj ⊢; simp at q4; rw [q4, hj]
      · rw [hat 7 (by decide)]; simp [rowI] at hj ⊢; simp at g4; rw [g4, hj]
      · rw [List.getElem?_eq_none (by show 8 ≤ j; exact hj8)] at hj
        cases hj
theorem tks_given {H : Type} {enc : TypeId × Value → H} {w : World} {base : Nat} {spare : Nat → Bool} {held : Bool} {fuel : Nat} {A : Option Addr} {n c : Nat} {x : DataW H × List MemPlace}
    (h : DataW.trod enc Tryz.prog w base spare held fuel 38 (Value.slice A n c).cells.toList = some x) : ∃ ts : List (Tk × Int), ts.length = n ∧ TksAt w A c ts ∧ ∀ t ∈ ts, t.1.numIn := by
  rcases open_tokens h with hcs | ⟨a, len, cap, hcs, hl, hm, hi⟩
  · simp [Value.cells] at hcs
    obtain ⟨rfl, rfl, rfl⟩ := hcs
    exact ⟨[], rfl, ⟨Nat.le_refl _, by decide, fun h => absurd rfl h⟩, fun t ht => by cases ht⟩
  · simp [Value.cells] at hcs
    obtain ⟨rfl, rfl, rfl⟩ := hcs
    have hex : ∃ f : Nat → Tk × Int, ∀ i, i < n → (f i).1.numIn ∧ ∀ j v, (rowI (f i))[j]? = some v → w.cell? (a.add (i * 8 + j)) = some v :=
      ⟨fun i => if hin : i < n then (hi i hin).choose else (Tk.zero, 0), fun i hin => by
        simp only [dif_pos hin]
        exact (hi i hin).choose_spec⟩
    obtain ⟨f, hf⟩ := hex
    refine ⟨(List.range n).map f, by simp, ⟨by simpa using hl, by unfold maxLen at hm; omega, fun hne => ?_⟩, fun t ht => ?_⟩
    · have hn : 0 < n := by
        rcases Nat.eq_zero_or_pos n with rfl | h0
        · simp at hne
        · exact h0
      have h0 := (hf 0 hn).2 0 _ rfl
      have hb := World.block_lt_of_cell? w _ h0
      rw [block_add] at hb
      have hs := World.cell?_spot h0
      obtain ⟨b, o, sp⟩ := a
      have hsp : sp = none := by simpa [Addr.add] using hs
      subst hsp
      refine ⟨b, o, rfl, hb, fun i t hit j v hj => ?_⟩
      obtain ⟨hil, rfl⟩ := List.getElem?_eq_some_iff.1 hit
      rw [List.length_map, List.length_range] at hil
      rw [List.getElem_map, List.getElem_range] at hj
      have h9 := (hf i hil).2 j v hj
      rwa [show (⟨b, o, none⟩ : Addr).add (i * 8 + j) = ⟨b, o + (i * 8 + j), none⟩ by unfold Addr.add; split <;> simp_all] at h9
    · obtain ⟨i, hir, rfl⟩ := List.mem_map.1 ht
      exact (hf i (List.mem_range.1 hir)).1
theorem LexWrites_walk (A : Option Addr) (n c : Nat) (ts : List (Tk × Int)) (w : World) (hl : ts.length = n) (ha : TksAt w A c ts) (hf : ∀ t ∈ ts, t.1.numIn) (hL : laidMetH Tryz.prog Rows.lexWritesRow.laid w) (hS : w.ShapedOpen Tryz.prog) :
    Calls Tryz.prog 6 #[.slice A n c] w fun e w' => e = .returned (.bool true) ∧ Below w.heap.size w w' := by
  subst hl
  exact law_LexWrites ts A c w ha hf (env7_of hL hS (by kernel_rfl) (by kernel_rfl))
end Go.Proofs.YtlngjiibbcgkmaaGreatDoor
