/- Contracts of the reference lexer's text, address and begins. -/
import Derived.Test.YtlngjiibbcgkmaaGreatDoorRefA
import Derived.Test.YtlngjiibbcgkmaaGreatDoorAddrR
import Derived.Test.YtlngjiibbcgkmaaGreatDoorLexK
namespace Go.Proofs.YtlngjiibbcgkmaaGreatDoor
open Go.RowKit

/-- the literal from a on, seen from a later byte, with the text so far -/
def Look (s : ByteArray) (a k : Nat) (t : List UInt8) : Prop := unqS (s.data.toList.drop a) = (unqS (s.data.toList.drop k)).map fun p => (t ++ p.1, p.2 + (k - a))
theorem Look.start (s : ByteArray) (a : Nat) : Look s a a [] := by
  unfold Look
  simp
theorem Look.step {s : ByteArray} {a k : Nat} {t : List UInt8} (h : Look s a k t) (ha : a ≤ k) (hk : k < s.size) (h1 : s[k]'hk ≠ 34) : Look s a (k + 1) (t ++ [s[k]'hk]) := by
  have hsl : s.data.toList.length = s.size := by rw [Array.length_toList]; rfl
  have hd : s.data.toList.drop k = s[k]'hk :: s.data.toList.drop (k + 1) := List.drop_eq_getElem_cons (by omega)
  unfold Look at h ⊢
  rw [h, hd]
  cases hr : s.data.toList.drop (k + 1) with
  | nil => rw [unq_one, if_neg h1]; rfl
  | cons c r =>
    rw [unq_two, if_neg h1]
    cases unqS (c :: r) with
    | none => rfl
    | some y => simp; omega
theorem Look.pair {s : ByteArray} {a k : Nat} {t : List UInt8} (h : Look s a k t) (ha : a ≤ k) (hk : k + 1 < s.size) (h1 : s[k]'(by omega) = 34) (h2 : s[k + 1]'hk = 34) : Look s a (k + 2) (t ++ [34]) := by
  have hsl : s.data.toList.length = s.size := by rw [Array.length_toList]; rfl
  have hd : s.data.toList.drop k = s[k]'(by omega) :: s[k + 1]'hk :: s.data.toList.drop (k + 2) := by
    rw [List.drop_eq_getElem_cons (by omega), List.drop_eq_getElem_cons (by omega)]
    rfl
  unfold Look at h ⊢
  rw [h, hd, unq_two, if_pos h1, if_pos h2]
  cases unqS (s.data.toList.drop (k + 2)) with
  | none => rfl
  | some y => simp; omega
theorem Look.last {s : ByteArray} {a k : Nat} {t : List UInt8} (h : Look s a k t) (ha : a ≤ k) (hk : k < s.size) (h1 : s[k]'hk = 34) (h2 : ∀ h : k + 1 < s.size, s[k + 1]'h ≠ 34) : unqS (s.data.toList.drop a) = some (t, k + 1 - a) := by
  have hsl : s.data.toList.length = s.size := by rw [Array.length_toList]; rfl
  have hu : unqS (s.data.toList.drop k) = some ([], 1) := by
    have hd : s.data.toList.drop k = s[k]'hk :: s.data.toList.drop (k + 1) := List.drop_eq_getElem_cons (by omega)
    rw [hd]
    by_cases hk1 : k + 1 < s.size
    · have hd2 : s.data.toList.drop (k + 1) = s[k + 1]'hk1 :: s.data.toList.drop (k + 2) := List.drop_eq_getElem_cons (by omega)
      rw [hd2, unq_two, if_pos h1, if_neg (h2 hk1)]
    · rw [List.drop_eq_nil_of_le (by omega), unq_one, if_pos h1]
  unfold Look at h
  rw [h, hu]
  simp; omega
theorem Look.out {s : ByteArray} {a : Nat} {t : List UInt8} (h : Look s a s.size t) : unqS (s.data.toList.drop a) = none := by
  have hsl : s.data.toList.length = s.size := by rw [Array.length_toList]; rfl
  unfold Look at h
  rw [h, List.drop_eq_nil_of_le (by omega)]
  rfl
theorem snoc_bytes (x y : ByteArray) : (x ++ y).data.toList = x.data.toList ++ y.data.toList := by rw [ByteArray.data_append, Array.toList_append]
theorem one_byte {s : ByteArray} {k : Nat} (hk : k < s.size) : (s.extract k (k + 1)).data.toList = [s[k]'hk] := by
  have hsl : s.data.toList.length = s.size := by rw [Array.length_toList]; rfl
  rw [Lib.extract_data, show k + 1 - k = 1 by omega, List.drop_eq_getElem_cons (by omega)]
  rfl
set_option maxRecDepth 100000 in
set_option maxHeartbeats 8000000 in
theorem ref7_text (s : ByteArray) (i : Nat) (w : World) (hs : s.size ≤ 256) (hi : i < s.size) (h34 : s[i]'hi = 34) :
    Calls Tryz.prog 71 #[.string s, .int .i64 (i : Int)] w fun e w' => RefOut i (txtR (restB s i) i) e ∧ Below w.heap.size w w' := by
  have H34 := keep h34
  clear h34
  have H1 := Lib.hid (Ok.start w)
  go_enter Tryz.func71, Tryz.ntmps71
  go_wp2_with fail
  have H2 := Lib.hid ((H1.out.var w.heap.size 43 [.int .u8 0, .int .i64 0, .string ⟨#[]⟩, .int .i64 0, .int .i64 0, .int .i64 0, .int .i64 0, .int .i64 0] rfl).var (w.heap.size + 1) 43 [.int .u8 2, .int .i64 0, .string ⟨#[]⟩, .int .i64 0, .int .i64 0, .int .i64 0, .int .i64 0, .int .i64 (i : Int)] (by simp))
  clear H1
  generalize ((w.alloc (.cells #[.int .u8 0, .int .i64 0, .string ⟨#[]⟩, .int .i64 0, .int .i64 0, .int .i64 0, .int .i64 0, .int .i64 0] 43)).alloc (.cells #[.int .u8 2, .int .i64 0, .string ⟨#[]⟩, .int .i64 0, .int .i64 0, .int .i64 0, .int .i64 0, .int .i64 (i : Int)] 43)) = W3 at H2 ⊢
  go_loopw [8] (fun kv wr => ∃ (k : Nat) (X : ByteArray), i + 1 ≤ k ∧ k ≤ s.size ∧ X.size ≤ k ∧ kv = .int .i64 (k : Int) ∧ Keep (Look s (i + 1) k X.data.toList) ∧ Hid (Ok w [kVar (w.heap.size + 1) 43 [.int .u8 2, .int .i64 0, .string X, .int .i64 0, .int .i64 0, .int .i64 0, .int .i64 0, .int .i64 (i : Int)], kVar (w.heap.size) 43 [.int .u8 0, .int .i64 0, .string ⟨#[]⟩, .int .i64 0, .int .i64 0, .int .i64 0, .int .i64 0, .int .i64 0]] wr)) (fun kv _ => s.size - (intOf kv).toNat)
  case atStart => exact ⟨i + 1, ⟨#[]⟩, Nat.le_refl _, hi, Nat.zero_le _, by go_num, keep (Look.start _ _), H2⟩
  case round =>
    clear H2
    obtain ⟨k, X, hk1, hk, hX, rfl, HK, HR⟩ := hrel
    obtain ⟨wp, rfl⟩ : ∃ wp : World, wp = wr := ⟨_, rfl⟩
    by_cases hlt : (k : Int) < s.size
    · have hks : k < s.size := by omega
      by_cases h3 : ((s[k]'hks).toNat : Int) = 34
      · have H3 := keep (show s[k]'hks = 34 by rw [← UInt8.toNat_inj]; show _ = 34; omega)
        have hb3 : (((s[k]'hks).toNat : Int) != 34) = false := by rw [h3]; rfl
        clear h3
        have ht1 : ((k : Int) + 1).toNat = k + 1 := by omega
        by_cases h4 : (k : Int) + 1 < s.size
        · have hks1 : k + 1 < s.size := by omega
          by_cases h5 : ((s[k + 1]'hks1).toNat : Int) = 34
          · have H5 := keep (show s[k + 1]'hks1 = 34 by rw [← UInt8.toNat_inj]; show _ = 34; omega)
            have hb5 : (((s[k + 1]'hks1).toNat : Int) == 34) = true := by rw [h5]; rfl
            clear h5
            have F4 := HR.out.sees
            simp only [sees, kVar, cellsAt, Nat.reduceAdd] at F4
            obtain ⟨⟨⟨z0, fz0⟩, c0_0, c0_1, c0_2, c0_3, c0_4, c0_5, c0_6, c0_7, -⟩, ⟨⟨z1, fz1⟩, c1_0, c1_1, c1_2, c1_3, c1_4, c1_5, c1_6, c1_7, -⟩, -⟩ := F4
            have HX2 := keep (show Look s (i + 1) (k + 2) (X ++ (⟨#[34]⟩ : ByteArray)).data.toList by rw [snoc_bytes]; exact Look.pair HK.out hk1 hks1 H3.out H5.out)
            have HXS := show (X ++ (⟨#[34]⟩ : ByteArray)).size ≤ k + 2 by rw [ByteArray.size_append]; show X.size + 1 ≤ _; omega
            go_wp2_with fail
            clear z0 fz0 c0_0 c0_1 c0_2 c0_3 c0_4 c0_5 c0_6 c0_7 z1 fz1 c1_0 c1_1 c1_2 c1_3 c1_4 c1_5 c1_6 c1_7
            have HS := Lib.hid (HR.out.set_ (i := 2) (u := .string (X ++ (⟨#[34]⟩ : ByteArray))) (by omega) (by simp [kVar]))
            go_roundw
            case rel => exact ⟨k + 2, X ++ (⟨#[34]⟩ : ByteArray), by omega, by omega, HXS, by go_num, HX2, HS⟩
            case measure => simp [intOf]; omega
          · have H5 := keep (show s[k + 1]'hks1 ≠ 34 by intro e; rw [e] at h5; exact h5 rfl)
            have hb5 : (((s[k + 1]'hks1).toNat : Int) == 34) = false := by simpa using h5
            clear h5
            have HRES := keep (txt_yes hi H34.out (Look.last HK.out hk1 hks H3.out (fun _ => H5.out)))
            have hke : (k : Int) + 1 = ((k + 1 : Nat) : Int) := by omega
            have HKE := keep hke
            clear hke
            have F4 := HR.out.sees
            simp only [sees, kVar, cellsAt, Nat.reduceAdd] at F4
            obtain ⟨⟨⟨z0, fz0⟩, c0_0, c0_1, c0_2, c0_3, c0_4, c0_5, c0_6, c0_7, -⟩, ⟨⟨z1, fz1⟩, c1_0, c1_1, c1_2, c1_3, c1_4, c1_5, c1_6, c1_7, -⟩, -⟩ := F4
            go_wp2_with fail
            have hK := HR.out.get (kVar (w.heap.size) 43 [.int .u8 0, .int .i64 0, .string ⟨#[]⟩, .int .i64 0, .int .i64 0, .int .i64 0, .int .i64 0, .int .i64 0]) (by simp)
            have hB := HR.out.bel
            have hE := (((((((((show Blk wp (w.heap.size) 43 _ from hK).set_ 0 (.int .u8 2)).set_ 1 (.int .i64 0)).set_ 2 (.string X)).set_ 3 (.int .i64 0)).set_ 4 (.int .i64 0)).set_ 5 (.int .i64 0)).set_ 6 (.int .i64 0)).set_ 7 (.int .i64 (i : Int)))
            have r0 := hE.cell 0
            have r1 := hE.cell 1
            have r2 := hE.cell 2
            have r3 := hE.cell 3
            have r4 := hE.cell 4
            have r5 := hE.cell 5
            have r6 := hE.cell 6
            have r7 := hE.cell 7
            simp at r0 r1 r2 r3 r4 r5 r6 r7
            refine bodyPost_ret (v := .tuple #[.agg #[.int .u8 2, .int .i64 0, .string X, .int .i64 0, .int .i64 0, .int .i64 0, .int .i64 0, .int .i64 (i : Int)], .int .i64 ((k : Int) + 1), .bool true]) (by simp [results, Tryz.results71, go_sem, r0, r1, r2, r3, r4, r5, r6, r7]) rfl ⟨by rw [HKE.out]; exact refout_some (k + 1) HRES.out (by omega), ((((((((hB.setCell (by simp) _).setCell (by simp) _).setCell (by simp) _).setCell (by simp) _).setCell (by simp) _).setCell (by simp) _).setCell (by simp) _).setCell (by simp) _)⟩
        · have HRES := keep (txt_yes hi H34.out (Look.last HK.out hk1 hks H3.out (fun h => absurd h (by omega))))
          have hke : (k : Int) + 1 = ((k + 1 : Nat) : Int) := by omega
          have HKE := keep hke
          clear hke
          have F4 := HR.out.sees
          simp only [sees, kVar, cellsAt, Nat.reduceAdd] at F4
          obtain ⟨⟨⟨z0, fz0⟩, c0_0, c0_1, c0_2, c0_3, c0_4, c0_5, c0_6, c0_7, -⟩, ⟨⟨z1, fz1⟩, c1_0, c1_1, c1_2, c1_3, c1_4, c1_5, c1_6, c1_7, -⟩, -⟩ := F4
          go_wp2_with fail
          have hK := HR.out.get (kVar (w.heap.size) 43 [.int .u8 0, .int .i64 0, .string ⟨#[]⟩, .int .i64 0, .int .i64 0, .int .i64 0, .int .i64 0, .int .i64 0]) (by simp)
          have hB := HR.out.bel
          have hE := (((((((((show Blk wp (w.heap.size) 43 _ from hK).set_ 0 (.int .u8 2)).set_ 1 (.int .i64 0)).set_ 2 (.string X)).set_ 3 (.int .i64 0)).set_ 4 (.int .i64 0)).set_ 5 (.int .i64 0)).set_ 6 (.int .i64 0)).set_ 7 (.int .i64 (i : Int)))
          have r0 := hE.cell 0
          have r1 := hE.cell 1
          have r2 := hE.cell 2
          have r3 := hE.cell 3
          have r4 := hE.cell 4
          have r5 := hE.cell 5
          have r6 := hE.cell 6
          have r7 := hE.cell 7
          simp at r0 r1 r2 r3 r4 r5 r6 r7
          refine bodyPost_ret (v := .tuple #[.agg #[.int .u8 2, .int .i64 0, .string X, .int .i64 0, .int .i64 0, .int .i64 0, .int .i64 0, .int .i64 (i : Int)], .int .i64 ((k : Int) + 1), .bool true]) (by simp [results, Tryz.results71, go_sem, r0, r1, r2, r3, r4, r5, r6, r7]) rfl ⟨by rw [HKE.out]; exact refout_some (k + 1) HRES.out (by omega), ((((((((hB.setCell (by simp) _).setCell (by simp) _).setCell (by simp) _).setCell (by simp) _).setCell (by simp) _).setCell (by simp) _).setCell (by simp) _).setCell (by simp) _)⟩
      · have H3 := keep (show s[k]'hks ≠ 34 by intro e; rw [e] at h3; exact h3 rfl)
        have hb3 : (((s[k]'hks).toNat : Int) != 34) = true := by simpa using h3
        clear h3
        have HX2 := keep (show Look s (i + 1) (k + 1) (X ++ s.extract k (k + 1)).data.toList by rw [snoc_bytes, one_byte hks]; exact Look.step HK.out hk1 hks H3.out)
        have HXS := show (X ++ s.extract k (k + 1)).size ≤ k + 1 by rw [ByteArray.size_append, ByteArray.size_extract]; omega
        have ht1 : ((k : Int) + 1).toNat = k + 1 := by omega
        have hw1 : IntKind.i64.wrap ((k : Int) + 1) = (k : Int) + 1 := Go.IntWalk.i64_in _ (by omega)
        have hc0 : (0 : Int) ≤ (k : Int) + 1 := by omega
        have hc1 : (k : Int) ≤ (k : Int) + 1 := by omega
        have hc2 : (k : Int) + 1 ≤ (s.size : Int) := by omega
        go_upto_region 6 with fail
        have HD := Lib.hid HR.out.drew
        refine wp_region_any (by kernel_rfl) ?_
        change wpAny _ _ _ _ _ _ _ wp.drew
        generalize wp.drew = W1 at HD ⊢
        have F4 := HD.out.sees
        simp only [sees, kVar, cellsAt, Nat.reduceAdd] at F4
        obtain ⟨⟨⟨z0, fz0⟩, c0_0, c0_1, c0_2, c0_3, c0_4, c0_5, c0_6, c0_7, -⟩, ⟨⟨z1, fz1⟩, c1_0, c1_1, c1_2, c1_3, c1_4, c1_5, c1_6, c1_7, -⟩, -⟩ := F4
        refine wpAny_take (i := 0) (v := ?vy1) rfl (by kernel_rfl) (by kernel_rfl) (by kernel_rfl) (fun _ _ _ h => h) (Or.inl ⟨by rfl, ?hy1⟩) ?ry1
        case hy1 => (intro w; go_simp; (try rw [if_neg (by omega)]); (try with_reducible rfl))
        try simp only [Act.put, List.setIfInBounds_toArray, List.set_cons_zero, List.set_cons_succ, List.getElem_toArray, List.getElem_cons_succ, List.getElem_cons_zero]
        refine wpAny_take (i := 2) (v := ?vy2) rfl (by kernel_rfl) (by kernel_rfl) (by kernel_rfl) (fun _ _ _ h => h) (Or.inl ⟨by rfl, ?hy2⟩) ?ry2
        case hy2 => (intro w; go_simp; (try rw [if_neg (by omega)]); (try with_reducible rfl))
        try simp only [Act.put, List.setIfInBounds_toArray, List.set_cons_zero, List.set_cons_succ, List.getElem_toArray, List.getElem_cons_succ, List.getElem_cons_zero]
        refine wpAny_take (i := 3) (v := ?vy3) rfl (by kernel_rfl) (by kernel_rfl) (by kernel_rfl) (fun _ _ _ h => h) (Or.inl ⟨by rfl, ?hy3⟩) ?ry3
        case hy3 => (intro w; go_simp; (try rw [if_neg (by omega)]); (try with_reducible rfl))
        try simp only [Act.put, List.setIfInBounds_toArray, List.set_cons_zero, List.set_cons_succ, List.getElem_toArray, List.getElem_cons_succ, List.getElem_cons_zero]
        refine wpAny_take (i := 4) (v := ?vy4) rfl (by kernel_rfl) (by kernel_rfl) (by kernel_rfl) (fun _ _ _ h => h) (Or.inl ⟨by rfl, ?hy4⟩) ?ry4
        case hy4 => (intro w; go_simp; (try rw [if_neg (by omega)]); (try with_reducible rfl))
        try simp only [Act.put, List.setIfInBounds_toArray, List.set_cons_zero, List.set_cons_succ, List.getElem_toArray, List.getElem_cons_succ, List.getElem_cons_zero]
        refine wpAny_take (i := 5) (v := ?vy5) rfl (by kernel_rfl) (by kernel_rfl) (by kernel_rfl) (fun _ _ _ h => h) (Or.inl ⟨by rfl, ?hy5⟩) ?ry5
        case hy5 => (intro w; go_simp; (try rw [if_neg (by omega)]); (try with_reducible rfl))
        try simp only [Act.put, List.setIfInBounds_toArray, List.set_cons_zero, List.set_cons_succ, List.getElem_toArray, List.getElem_cons_succ, List.getElem_cons_zero]
        refine wpAny_take (i := 6) (v := ?vy6) rfl (by kernel_rfl) (by kernel_rfl) (by kernel_rfl) (fun _ _ _ h => h) (Or.inl ⟨by rfl, ?hy6⟩) ?ry6
        case hy6 => (intro w; go_simp; (try rw [if_neg (by omega)]); (try with_reducible rfl))
        try simp only [Act.put, List.setIfInBounds_toArray, List.set_cons_zero, List.set_cons_succ, List.getElem_toArray, List.getElem_cons_succ, List.getElem_cons_zero]
        refine wpAny_ready (rs := [1]) (by kernel_rfl) (by simp) ?_
        refine (AllReady.cons rfl (fun K hK => ?_) AllReady.nil)
        · go_simp
          refine hK _ _ ?_
          clear hK K
          try simp only [Act.put, List.setIfInBounds_toArray, List.set_cons_zero, List.set_cons_succ, List.getElem_toArray, List.getElem_cons_succ, List.getElem_cons_zero]
          refine wpAny_take (i := 7) (v := ?vy7) rfl (by kernel_rfl) (by kernel_rfl) (by kernel_rfl) (fun _ _ _ h => h) (Or.inl ⟨by rfl, ?hy7⟩) ?ry7
          case hy7 => (intro w; go_simp; (try rw [if_neg (by omega)]); (try with_reducible rfl))
          try simp only [Act.put, List.setIfInBounds_toArray, List.set_cons_zero, List.set_cons_succ, List.getElem_toArray, List.getElem_cons_succ, List.getElem_cons_zero]
          refine wpAny_take (i := 8) (v := ?vy8) rfl (by kernel_rfl) (by kernel_rfl) (by kernel_rfl) (fun _ _ _ h => h) (Or.inl ⟨by rfl, ?hy8⟩) ?ry8
          case hy8 => (intro w; go_simp; (try rw [if_neg (by omega)]); (try with_reducible rfl))
          try simp only [Act.put, List.setIfInBounds_toArray, List.set_cons_zero, List.set_cons_succ, List.getElem_toArray, List.getElem_cons_succ, List.getElem_cons_zero]
          refine wpAny_ready (rs := [9]) (by kernel_rfl) (by simp) ?_
          refine (AllReady.cons rfl (fun K hK => ?_) AllReady.nil)
          · go_simp
            refine hK _ _ ?_
            clear hK K
            try simp only [Act.put, List.setIfInBounds_toArray, List.set_cons_zero, List.set_cons_succ, List.getElem_toArray, List.getElem_cons_succ, List.getElem_cons_zero]
            refine wpAny_done (by kernel_rfl) ?_ _
            have HS := Lib.hid (HD.out.set_ (i := 2) (u := .string (X ++ s.extract k (k + 1))) (by omega) (by simp [kVar]))
            clear z0 fz0 c0_0 c0_1 c0_2 c0_3 c0_4 c0_5 c0_6 c0_7 z1 fz1 c1_0 c1_1 c1_2 c1_3 c1_4 c1_5 c1_6 c1_7
            go_wp2_with fail
            go_roundw
            case rel => exact ⟨k + 1, X ++ s.extract k (k + 1), by omega, by omega, HXS, by go_num, HX2, HS⟩
            case measure => simp [intOf]; omega
    · obtain rfl : k = s.size := by omega
      have HN := keep (txt_open hi H34.out (Look.out HK.out))
      have F4 := HR.out.sees
      simp only [sees, kVar, cellsAt, Nat.reduceAdd] at F4
      obtain ⟨⟨⟨z0, fz0⟩, c0_0, c0_1, c0_2, c0_3, c0_4, c0_5, c0_6, c0_7, -⟩, ⟨⟨z1, fz1⟩, c1_0, c1_1, c1_2, c1_3, c1_4, c1_5, c1_6, c1_7, -⟩, -⟩ := F4
      go_wp2_with fail
      have hK := HR.out.get (kVar (w.heap.size) 43 [.int .u8 0, .int .i64 0, .string ⟨#[]⟩, .int .i64 0, .int .i64 0, .int .i64 0, .int .i64 0, .int .i64 0]) (by simp)
      have hB := HR.out.bel
      have hE := (((((((((show Blk wp (w.heap.size) 43 _ from hK).set_ 0 (.int .u8 2)).set_ 1 (.int .i64 0)).set_ 2 (.string X)).set_ 3 (.int .i64 0)).set_ 4 (.int .i64 0)).set_ 5 (.int .i64 0)).set_ 6 (.int .i64 0)).set_ 7 (.int .i64 (i : Int)))
      have r0 := hE.cell 0
      have r1 := hE.cell 1
      have r2 := hE.cell 2
      have r3 := hE.cell 3
      have r4 := hE.cell 4
      have r5 := hE.cell 5
      have r6 := hE.cell 6
      have r7 := hE.cell 7
      simp at r0 r1 r2 r3 r4 r5 r6 r7
      refine bodyPost_ret (v := .tuple #[.agg #[.int .u8 2, .int .i64 0, .string X, .int .i64 0, .int .i64 0, .int .i64 0, .int .i64 0, .int .i64 (i : Int)], .int .i64 0, .bool false]) (by simp [results, Tryz.results71, go_sem, r0, r1, r2, r3, r4, r5, r6, r7]) rfl ⟨refout_none ⟨2, 0, X.data.toList, R4.zero, i⟩ HN.out, ((((((((hB.setCell (by simp) _).setCell (by simp) _).setCell (by simp) _).setCell (by simp) _).setCell (by simp) _).setCell (by simp) _).setCell (by simp) _).setCell (by simp) _)⟩
theorem letV_up (b : UInt8) : letV (upB b) = letV b := by
  by_cases h : 97 ≤ b.toNat ∧ b.toNat ≤ 122
  · have := upB_low b h
    unfold letV
    rw [if_pos (by omega), if_neg (by omega), if_pos h]
    omega
  · rw [upB_same b h]
theorem dig_up (b : UInt8) : isDig (upB b) = isDig b := by
  by_cases h : 97 ≤ b.toNat ∧ b.toNat ≤ 122
  · have := upB_low b h
    unfold isDig
    rw [decide_eq_false (by omega), decide_eq_false (by omega)]
  · rw [upB_same b h]
theorem let_up (b : UInt8) : isLet (upB b) = isLet b := by unfold isLet; rw [letV_up]
theorem parse_up (l : List UInt8) : parseS (l.map upB) = parseS l := by
  have hp : (isLet ∘ upB) = isLet := funext let_up
  have h1 : (l.map upB).takeWhile isLet = (l.takeWhile isLet).map upB := by rw [List.takeWhile_map, hp]
  have h2 : (l.map upB).dropWhile isLet = (l.dropWhile isLet).map upB := by rw [List.dropWhile_map, hp]
  have h3 : colOf ((l.takeWhile isLet).map upB) = colOf (l.takeWhile isLet) := by
    unfold colOf
    rw [List.foldl_map]
    congr 1
    funext n b
    unfold stepC
    rw [letV_up]
  have h4 : ((l.dropWhile isLet).map upB).all isDig = (l.dropWhile isLet).all isDig := by
    rw [List.all_map]
    congr 1
    exact funext dig_up
  unfold parseS
  simp only [h1, h2, h3, h4, List.map_eq_nil_iff]
  by_cases hd : (l.dropWhile isLet).all isDig = true
  · have h5 : (l.dropWhile isLet).map upB = l.dropWhile isLet := by
      have : ∀ b ∈ l.dropWhile isLet, upB b = b := by
        intro b hb
        have h6 := List.all_eq_true.1 hd b hb
        unfold isDig at h6
        exact upB_same b (by simp at h6; omega)
      exact (List.map_congr_left this).trans (List.map_id _)
    rw [h5]
  · rw [if_pos (by simp [hd]), if_pos (by simp [hd])]
/-- a text begins with capitals x, small letters taken for capitals -/
def begB (l x : List UInt8) : Bool := decide ((l.take x.length).map upB = x)
theorem beg_short {l x : List UInt8} (h : l.length < x.length) : begB l x = false := by
  unfold begB
  rw [decide_eq_false]
  intro e
  have := congrArg List.length e
  rw [List.length_map, List.length_take] at this
  omega
theorem beg_bytes {s x U : ByteArray} {i q : Nat} (hq : i + x.size = q) (hU : U.data.toList = (s.extract i q).data.toList.map upB) : (U.toList == x.toList) = begB (restB s i) x.data.toList := by
  have hx : x.data.toList.length = x.size := by rw [Array.length_toList]; rfl
  rw [Lib.toList_data, Lib.toList_data, hU, Bool.eq_iff_iff, beq_iff_eq]
  unfold begB restB
  rw [decide_eq_true_eq, Lib.extract_data, hx, show q - i = x.size by omega]
set_option maxRecDepth 100000 in
set_option maxHeartbeats 8000000 in
theorem ref7_begins (s x : ByteArray) (i : Nat) (w : World) (hs : s.size ≤ 256) (hx : x.size ≤ 16) (hi : i ≤ s.size) :
    Calls Tryz.prog 109 #[.string s, .int .i64 (i : Int), .string x] w fun e w' => e = .returned (.bool (begB (restB s i) x.data.toList)) ∧ Below w.heap.size w w' := by
  have hxl : x.data.toList.length = x.size := by rw [Array.length_toList]; rfl
  have hrl : (restB s i).length + i = s.size := by unfold restB; rw [List.length_drop, Array.length_toList]; show s.size - i + i = _; omega
  obtain ⟨q, hq⟩ : ∃ q, i + x.size = q := ⟨_, rfl⟩
  have HQ := keep hq
  have hqi : (i : Int) + (x.size : Int) = (q : Int) := by omega
  have hiq : (i : Int) ≤ q := by omega
  by_cases h : (q : Int) ≤ s.size
  · have hBB : ∀ U : ByteArray, U.data.toList = (s.extract i q).data.toList.map upB → (U.toList == x.toList) = begB (restB s i) x.data.toList := fun U h => beg_bytes hq h
    have HBB := keep hBB
    clear hBB
    clear hxl hrl hq
    go_enter Tryz.func109, Tryz.ntmps109
    go_wp2_with fail
    refine (ref4_Upper (s.extract i q) _ (by rw [ByteArray.size_extract]; omega)).mono ?_
    rintro e w1 ⟨rfl, hb⟩
    have HW := Lib.hid hb
    clear hb
    obtain ⟨U, hU⟩ : ∃ U : ByteArray, U = ⟨((s.extract i q).data.toList.map upB).toArray⟩ := ⟨_, rfl⟩
    rw [← hU]
    have HB := keep (HBB.out U (by rw [hU]))
    clear hU
    go_wp2_with fail
    go_ret
    refine ⟨?_, HW.out⟩
    show Ending.returned (Value.bool (U.toList == x.toList)) = _
    rw [HB.out]
  · have HB := keep (beg_short (l := restB s i) (x := x.data.toList) (by rw [hxl]; omega))
    clear hxl hrl hq
    go_enter Tryz.func109, Tryz.ntmps109
    go_wp2_with fail
    go_ret
    refine ⟨?_, Below.refl _ _⟩
    show Ending.returned (Value.bool false) = _
    rw [HB.out]
def AdrOut (i : Nat) (r : Option (Int × Int × Nat)) (e : Ending) : Prop := ∃ (c t : Int) (n : Nat), e = .returned (.tuple #[.agg #[.int .i64 c, .int .i64 t], .int .i64 (n : Int), .bool r.isSome]) ∧ ∀ x, r = some x → c = x.1 ∧ t = x.2.1 ∧ n = i + x.2.2
theorem adrout_none {i : Nat} {r : Option (Int × Int × Nat)} (c t : Int) (n : Nat) (h : r = none) : AdrOut i r (.returned (.tuple #[.agg #[.int .i64 c, .int .i64 t], .int .i64 (n : Int), .bool false])) :=
  ⟨c, t, n, by rw [h]; rfl, fun x hx => by rw [h] at hx; cases hx⟩
theorem adrout_some {i n : Nat} {r : Option (Int × Int × Nat)} {c t : Int} (m : Nat) (h : r = some (c, t, n)) (hm : m = i + n) : AdrOut i r (.returned (.tuple #[.agg #[.int .i64 c, .int .i64 t], .int .i64 (m : Int), .bool true])) :=
  ⟨c, t, m, by rw [h]; rfl, fun x hx => by rw [h] at hx; cases hx; exact ⟨rfl, rfl, hm⟩⟩
theorem addr_eq (s : ByteArray) (i z : Nat) (c r e : Int) (hl : testAt isLet s i = true) (hz : i + (wrdRun s i).length = z) (hp : parseS (wrdRun s i) = (c, r, e)) :
    addrS (restB s i) = if e = 0 ∧ testAt (· == 40) s z = false then some (c, r, (wrdRun s i).length) else none := by
  have hw : (restB s i).takeWhile isWrd = wrdRun s i := rfl
  have hh : (restB s i).head?.any isLet = true := by
    unfold restB
    rw [List.head?_drop]
    exact hl
  have hd : ((restB s i).dropWhile isWrd).head? = s.data.toList[z]? := by
    have h1 := (run_split isWrd (restB s i)).1
    have h2 : (restB s i).dropWhile isWrd = (restB s i).drop (wrdRun s i).length := by
      conv => rhs; rw [h1]
      rw [hw, List.drop_left]
    rw [h2]
    unfold restB
    rw [List.drop_drop, List.head?_drop, hz]
  unfold addrS
  simp only [hw, hh, hd, parse_up, hp, true_and]
  unfold testAt
  cases s.data.toList[z]? with
  | none => simp
  | some b => simp
theorem addr_no (s : ByteArray) (i : Nat) (hl : testAt isLet s i = false) : addrS (restB s i) = none := by
  have hh : (restB s i).head?.any isLet = false := by
    unfold restB
    rw [List.head?_drop]
    exact hl
  unfold addrS
  simp [hh]
theorem wrd_ext (s : ByteArray) (i z : Nat) (hz : i + (wrdRun s i).length = z) : (s.extract i z).data.toList = wrdRun s i := by
  rw [Lib.extract_data, ← hz, Nat.add_sub_cancel_left]
  exact take_run isWrd (restB s i)
theorem wrd_le (s : ByteArray) (i : Nat) (hi : i ≤ s.size) : i + (wrdRun s i).length ≤ s.size := by
  have h1 : (wrdRun s i).length ≤ (s.data.toList.drop i).length := (List.takeWhile_sublist _).length_le
  have hsl : s.data.toList.length = s.size := by rw [Array.length_toList]; rfl
  rw [List.length_drop] at h1
  omega
theorem par_at {s : ByteArray} {z : Nat} (h : z < s.size) : testAt (· == 40) s z = decide (((s[z]'h).toNat : Int) = 40) := by
  rw [test_in h, Bool.eq_iff_iff, beq_iff_eq, decide_eq_true_eq, ← UInt8.toNat_inj]
  show _ = 40 ↔ _
  omega
set_option maxRecDepth 100000 in
set_option maxHeartbeats 8000000 in
theorem ref7_address (s : ByteArray) (i : Nat) (w : World) (hs : s.size ≤ 256) (hi : i ≤ s.size) :
    Calls Tryz.prog 107 #[.string s, .int .i64 (i : Int)] w fun e w' => AdrOut i (addrS (restB s i)) e ∧ Below w.heap.size w w' := by
  cases hl : testAt isLet s i
  · have HL := keep hl
    clear hl
    have H1 := Lib.hid (Ok.start w)
    go_enter Tryz.func107, Tryz.ntmps107
    go_wp2_with fail
    have H2 := Lib.hid (H1.out.var w.heap.size 104 [.int .i64 0, .int .i64 0] rfl)
    clear H1
    generalize (w.alloc (.cells #[.int .i64 0, .int .i64 0] 104)) = W3 at H2 ⊢
    refine (ref7_letter s i _).mono ?_
    rintro e w4 ⟨rfl, hw5⟩
    obtain rfl : W3 = w4 := hw5.symm
    rw [HL.out]
    have F6 := H2.out.sees
    simp only [sees, kVar, cellsAt, Nat.reduceAdd] at F6
    obtain ⟨⟨⟨z0, fz0⟩, c0_0, c0_1, -⟩, -⟩ := F6
    go_wp2_with fail
    have hK := H2.out.get (kVar (w.heap.size) 104 [.int .i64 0, .int .i64 0]) (by simp)
    have hB := H2.out.bel
    have hE := (((show Blk W3 (w.heap.size) 104 _ from hK).set_ 0 (.int .i64 0)).set_ 1 (.int .i64 0))
    have r0 := hE.cell 0
    have r1 := hE.cell 1
    simp at r0 r1
    refine bodyPost_ret (v := .tuple #[.agg #[.int .i64 0, .int .i64 0], .int .i64 0, .bool false]) (by simp [results, Tryz.results107, go_sem, r0, r1]) rfl ⟨adrout_none 0 0 0 (addr_no s i HL.out), ((hB.setCell (by simp) _).setCell (by simp) _)⟩
  · have HL := keep hl
    clear hl
    obtain ⟨z, hz⟩ : ∃ z, i + (wrdRun s i).length = z := ⟨_, rfl⟩
    have hzs : z ≤ s.size := by rw [← hz]; exact wrd_le s i hi
    have hiz : i ≤ z := by omega
    obtain ⟨c, r, e0, hp⟩ : ∃ c r e0, parseS (wrdRun s i) = (c, r, e0) := ⟨_, _, _, rfl⟩
    have HEQ := keep (addr_eq s i z c r e0 HL.out hz hp)
    have HZ := keep hz
    have HP := keep (show parseS (s.extract i z).data.toList = (c, r, e0) by rw [wrd_ext s i z hz]; exact hp)
    clear hz hp
    have H1 := Lib.hid (Ok.start w)
    go_enter Tryz.func107, Tryz.ntmps107
    go_wp2_with fail
    have H2 := Lib.hid (H1.out.var w.heap.size 104 [.int .i64 0, .int .i64 0] rfl)
    clear H1
    generalize (w.alloc (.cells #[.int .i64 0, .int .i64 0] 104)) = W3 at H2 ⊢
    refine (ref7_letter s i _).mono ?_
    rintro e w4 ⟨rfl, hw5⟩
    obtain rfl : W3 = w4 := hw5.symm
    rw [HL.out]
    go_wp2_with fail
    refine (ref7_wordEnd s i _ (by omega) hi).mono ?_
    rintro e w7 ⟨rfl, hw7⟩
    obtain rfl : W3 = w7 := hw7.symm
    rw [HZ.out]
    go_wp2_with fail
    refine (ref_Parse (s.extract i z) _ (by rw [ByteArray.size_extract]; omega)).mono ?_
    rintro e w6 ⟨rfl, hb7⟩
    rw [HP.out]
    have H8 := Lib.hid (H2.out.below hb7)
    clear hb7 H2
    have F9 := H8.out.sees
    simp only [sees, kVar, cellsAt, Nat.reduceAdd] at F9
    obtain ⟨⟨⟨z0, fz0⟩, c0_0, c0_1, -⟩, -⟩ := F9
    go_upto_region 5 with fail
    clear z0 fz0 c0_0 c0_1
    have H10 := Lib.hid (H8.out.alloc w6.heap.size 104 [.int .i64 c, .int .i64 r] rfl)
    clear H8
    generalize (w6.alloc (.cells #[.int .i64 c, .int .i64 r] 104)) = W11 at H10 ⊢
    have HD := Lib.hid H10.out.drew
    clear H10
    by_cases h0 : e0 = 0
    · subst h0
      by_cases hzl : (z : Int) = s.size
      · have hzb : ((z : Int) == (s.size : Int)) = true := by simpa using hzl
        have HRES := keep (show addrS (restB s i) = some (c, r, (wrdRun s i).length) by rw [HEQ.out, if_pos ⟨rfl, test_out (by omega)⟩])
        clear hzl
        refine wp_region_any (by kernel_rfl) ?_
        change wpAny _ _ _ _ _ _ _ W11.drew
        generalize W11.drew = W9 at HD ⊢
        have F12 := HD.out.sees
        simp only [sees, kBlk, kVar, cellsAt, Nat.reduceAdd] at F12
        obtain ⟨⟨z0, c0_0, c0_1, -⟩, ⟨⟨z1, fz1⟩, c1_0, c1_1, -⟩, -⟩ := F12
        refine wpAny_take (i := 1) (v := ?vy9) rfl (by kernel_rfl) (by kernel_rfl) (by kernel_rfl) (fun _ _ _ h => h) (Or.inl ⟨by rfl, ?hy9⟩) ?ry9
        case hy9 => (intro w; go_simp; (try rw [if_neg (by omega)]); (try with_reducible rfl))
        try simp only [Act.put, List.setIfInBounds_toArray, List.set_cons_zero, List.set_cons_succ, List.getElem_toArray, List.getElem_cons_succ, List.getElem_cons_zero]
        refine wpAny_take (i := 2) (v := ?vy10) rfl (by kernel_rfl) (by kernel_rfl) (by kernel_rfl) (fun _ _ _ h => h) (Or.inl ⟨by rfl, ?hy10⟩) ?ry10
        case hy10 => (intro w; go_simp; (try rw [if_neg (by omega)]); (try with_reducible rfl))
        try simp only [Act.put, List.setIfInBounds_toArray, List.set_cons_zero, List.set_cons_succ, List.getElem_toArray, List.getElem_cons_succ, List.getElem_cons_zero]
        refine wpAny_take (i := 3) (v := ?vy11) rfl (by kernel_rfl) (by kernel_rfl) (by kernel_rfl) (fun _ _ _ h => h) (Or.inl ⟨by rfl, ?hy11⟩) ?ry11
        case hy11 => (intro w; go_simp; (try rw [if_neg (by omega)]); (try with_reducible rfl))
        try simp only [Act.put, List.setIfInBounds_toArray, List.set_cons_zero, List.set_cons_succ, List.getElem_toArray, List.getElem_cons_succ, List.getElem_cons_zero]
        refine wpAny_take (i := 4) (v := ?vy12) rfl (by kernel_rfl) (by kernel_rfl) (by kernel_rfl) (fun _ _ _ h => h) (Or.inl ⟨by rfl, ?hy12⟩) ?ry12
        case hy12 => (intro w; go_simp; (try rw [if_neg (by omega)]); (try with_reducible rfl))
        try simp only [Act.put, List.setIfInBounds_toArray, List.set_cons_zero, List.set_cons_succ, List.getElem_toArray, List.getElem_cons_succ, List.getElem_cons_zero]
        refine wpAny_take (i := 5) (v := ?vy13) rfl (by kernel_rfl) (by kernel_rfl) (by kernel_rfl) (fun _ _ _ h => h) (Or.inl ⟨by rfl, ?hy13⟩) ?ry13
        case hy13 => (intro w; go_simp; (try rw [if_neg (by omega)]); (try with_reducible rfl))
        try simp only [Act.put, List.setIfInBounds_toArray, List.set_cons_zero, List.set_cons_succ, List.getElem_toArray, List.getElem_cons_succ, List.getElem_cons_zero]
        refine wpAny_take (i := 6) (v := ?vy14) rfl (by kernel_rfl) (by kernel_rfl) (by kernel_rfl) (fun _ _ _ h => h) (Or.inl ⟨by rfl, ?hy14⟩) ?ry14
        case hy14 => (intro w; go_simp; (try rw [if_neg (by omega)]); (try with_reducible rfl))
        try simp only [Act.put, List.setIfInBounds_toArray, List.set_cons_zero, List.set_cons_succ, List.getElem_toArray, List.getElem_cons_succ, List.getElem_cons_zero]
        refine wpAny_take (i := 7) (v := ?vy15) rfl (by kernel_rfl) (by kernel_rfl) (by kernel_rfl) (fun _ _ _ h => h) (Or.inl ⟨by rfl, ?hy15⟩) ?ry15
        case hy15 => (intro w; go_simp; (try rw [if_neg (by omega)]); (try with_reducible rfl))
        try simp only [Act.put, List.setIfInBounds_toArray, List.set_cons_zero, List.set_cons_succ, List.getElem_toArray, List.getElem_cons_succ, List.getElem_cons_zero]
        refine wpAny_take (i := 8) (v := ?vy16) rfl (by kernel_rfl) (by kernel_rfl) (by kernel_rfl) (fun _ _ _ h => h) (Or.inl ⟨by rfl, ?hy16⟩) ?ry16
        case hy16 => (intro w; go_simp; (try rw [if_neg (by omega)]); (try with_reducible rfl))
        try simp only [Act.put, List.setIfInBounds_toArray, List.set_cons_zero, List.set_cons_succ, List.getElem_toArray, List.getElem_cons_succ, List.getElem_cons_zero]
        refine wpAny_take (i := 9) (v := ?vy17) rfl (by kernel_rfl) (by kernel_rfl) (by kernel_rfl) (fun _ _ _ h => h) (Or.inl ⟨by rfl, ?hy17⟩) ?ry17
        case hy17 => (intro w; go_simp; (try rw [if_neg (by omega)]); (try with_reducible rfl))
        try simp only [Act.put, List.setIfInBounds_toArray, List.set_cons_zero, List.set_cons_succ, List.getElem_toArray, List.getElem_cons_succ, List.getElem_cons_zero]
        refine wpAny_take (i := 10) (v := undef) rfl (by kernel_rfl) (by kernel_rfl) (by kernel_rfl) (fun _ _ _ h => h) (Or.inr ⟨by rfl, rfl⟩) ?_
        try simp only [Act.put, List.setIfInBounds_toArray, List.set_cons_zero, List.set_cons_succ, List.getElem_toArray, List.getElem_cons_succ, List.getElem_cons_zero]
        refine wpAny_take (i := 11) (v := undef) rfl (by kernel_rfl) (by kernel_rfl) (by kernel_rfl) (fun _ _ _ h => h) (Or.inr ⟨by rfl, rfl⟩) ?_
        try simp only [Act.put, List.setIfInBounds_toArray, List.set_cons_zero, List.set_cons_succ, List.getElem_toArray, List.getElem_cons_succ, List.getElem_cons_zero]
        refine wpAny_take (i := 12) (v := undef) rfl (by kernel_rfl) (by kernel_rfl) (by kernel_rfl) (fun _ _ _ h => h) (Or.inr ⟨by rfl, rfl⟩) ?_
        try simp only [Act.put, List.setIfInBounds_toArray, List.set_cons_zero, List.set_cons_succ, List.getElem_toArray, List.getElem_cons_succ, List.getElem_cons_zero]
        refine wpAny_take (i := 13) (v := undef) rfl (by kernel_rfl) (by kernel_rfl) (by kernel_rfl) (fun _ _ _ h => h) (Or.inr ⟨by rfl, rfl⟩) ?_
        try simp only [Act.put, List.setIfInBounds_toArray, List.set_cons_zero, List.set_cons_succ, List.getElem_toArray, List.getElem_cons_succ, List.getElem_cons_zero]
        refine wpAny_take (i := 14) (v := ?vy18) rfl (by kernel_rfl) (by kernel_rfl) (by kernel_rfl) (fun _ _ _ h => h) (Or.inl ⟨by rfl, ?hy18⟩) ?ry18
        case hy18 => (intro w; go_simp; (try rw [if_neg (by omega)]); (try with_reducible rfl))
        try simp only [Act.put, List.setIfInBounds_toArray, List.set_cons_zero, List.set_cons_succ, List.getElem_toArray, List.getElem_cons_succ, List.getElem_cons_zero]
        refine wpAny_take (i := 15) (v := ?vy19) rfl (by kernel_rfl) (by kernel_rfl) (by kernel_rfl) (fun _ _ _ h => h) (Or.inl ⟨by rfl, ?hy19⟩) ?ry19
        case hy19 => (intro w; go_simp; (try rw [if_neg (by omega)]); (try with_reducible rfl))
        try simp only [Act.put, List.setIfInBounds_toArray, List.set_cons_zero, List.set_cons_succ, List.getElem_toArray, List.getElem_cons_succ, List.getElem_cons_zero]
        refine wpAny_ready (rs := [0]) (by kernel_rfl) (by simp) ?_
        refine (AllReady.cons rfl (fun K hK => ?_) AllReady.nil)
        · go_simp
          refine hK _ _ ?_
          clear hK K
          try simp only [Act.put, List.setIfInBounds_toArray, List.set_cons_zero, List.set_cons_succ, List.getElem_toArray, List.getElem_cons_succ, List.getElem_cons_zero]
          refine wpAny_ready (rs := [16]) (by kernel_rfl) (by simp) ?_
          refine (AllReady.cons rfl (fun K hK => ?_) AllReady.nil)
          · go_simp
            refine hK _ _ ?_
            clear hK K
            try simp only [Act.put, List.setIfInBounds_toArray, List.set_cons_zero, List.set_cons_succ, List.getElem_toArray, List.getElem_cons_succ, List.getElem_cons_zero]
            refine wpAny_take (i := 17) (v := ?vy20) rfl (by kernel_rfl) (by kernel_rfl) (by kernel_rfl) (fun _ _ _ h => h) (Or.inl ⟨by rfl, ?hy20⟩) ?ry20
            case hy20 => (intro w; go_simp; (try rw [if_neg (by omega)]); (try with_reducible rfl))
            try simp only [Act.put, List.setIfInBounds_toArray, List.set_cons_zero, List.set_cons_succ, List.getElem_toArray, List.getElem_cons_succ, List.getElem_cons_zero]
            refine wpAny_take (i := 18) (v := ?vy21) rfl (by kernel_rfl) (by kernel_rfl) (by kernel_rfl) (fun _ _ _ h => h) (Or.inl ⟨by rfl, ?hy21⟩) ?ry21
            case hy21 => (intro w; go_simp; (try rw [if_neg (by omega)]); (try with_reducible rfl))
            try simp only [Act.put, List.setIfInBounds_toArray, List.set_cons_zero, List.set_cons_succ, List.getElem_toArray, List.getElem_cons_succ, List.getElem_cons_zero]
            refine wpAny_done (by kernel_rfl) ?_ _
            go_wp2_with fail
            have hK := HD.out.get (kVar (w.heap.size) 104 [.int .i64 0, .int .i64 0]) (by simp)
            have hB := HD.out.bel
            have hE := (((show Blk W9 (w.heap.size) 104 _ from hK).set_ 0 (.int .i64 c)).set_ 1 (.int .i64 r))
            have r0 := hE.cell 0
            have r1 := hE.cell 1
            simp at r0 r1
            refine bodyPost_ret (v := .tuple #[.agg #[.int .i64 c, .int .i64 r], .int .i64 (z : Int), .bool true]) (by simp [results, Tryz.results107, go_sem, r0, r1]) rfl ⟨adrout_some z HRES.out HZ.out.symm, ((hB.setCell (by simp) _).setCell (by simp) _)⟩
      · have hzb : ((z : Int) == (s.size : Int)) = false := by simpa using hzl
        have hzl2 : z < s.size := by omega
        by_cases h40 : ((s[z]'hzl2).toNat : Int) = 40
        · have hb40 : (((s[z]'hzl2).toNat : Int) != 40) = false := by rw [h40]; rfl
          have HRES := keep (show addrS (restB s i) = none by rw [HEQ.out, if_neg]; rintro ⟨-, h⟩; rw [par_at hzl2, decide_eq_true h40] at h; cases h)
          clear h40 hzl
          refine wp_region_any (by kernel_rfl) ?_
          change wpAny _ _ _ _ _ _ _ W11.drew
          generalize W11.drew = W9 at HD ⊢
          have F12 := HD.out.sees
          simp only [sees, kBlk, kVar, cellsAt, Nat.reduceAdd] at F12
          obtain ⟨⟨z0, c0_0, c0_1, -⟩, ⟨⟨z1, fz1⟩, c1_0, c1_1, -⟩, -⟩ := F12
          refine wpAny_take (i := 1) (v := ?vy22) rfl (by kernel_rfl) (by kernel_rfl) (by kernel_rfl) (fun _ _ _ h => h) (Or.inl ⟨by rfl, ?hy22⟩) ?ry22
          case hy22 => (intro w; go_simp; (try rw [if_neg (by omega)]); (try with_reducible rfl))
          try simp only [Act.put, List.setIfInBounds_toArray, List.set_cons_zero, List.set_cons_succ, List.getElem_toArray, List.getElem_cons_succ, List.getElem_cons_zero]
          refine wpAny_take (i := 2) (v := ?vy23) rfl (by kernel_rfl) (by kernel_rfl) (by kernel_rfl) (fun _ _ _ h => h) (Or.inl ⟨by rfl, ?hy23⟩) ?ry23
          case hy23 => (intro w; go_simp; (try rw [if_neg (by omega)]); (try with_reducible rfl))
          try simp only [Act.put, List.setIfInBounds_toArray, List.set_cons_zero, List.set_cons_succ, List.getElem_toArray, List.getElem_cons_succ, List.getElem_cons_zero]
          refine wpAny_take (i := 3) (v := ?vy24) rfl (by kernel_rfl) (by kernel_rfl) (by kernel_rfl) (fun _ _ _ h => h) (Or.inl ⟨by rfl, ?hy24⟩) ?ry24
          case hy24 => (intro w; go_simp; (try rw [if_neg (by omega)]); (try with_reducible rfl))
          try simp only [Act.put, List.setIfInBounds_toArray, List.set_cons_zero, List.set_cons_succ, List.getElem_toArray, List.getElem_cons_succ, List.getElem_cons_zero]
          refine wpAny_take (i := 4) (v := ?vy25) rfl (by kernel_rfl) (by kernel_rfl) (by kernel_rfl) (fun _ _ _ h => h) (Or.inl ⟨by rfl, ?hy25⟩) ?ry25
          case hy25 => (intro w; go_simp; (try rw [if_neg (by omega)]); (try with_reducible rfl))
          try simp only [Act.put, List.setIfInBounds_toArray, List.set_cons_zero, List.set_cons_succ, List.getElem_toArray, List.getElem_cons_succ, List.getElem_cons_zero]
          refine wpAny_take (i := 5) (v := ?vy26) rfl (by kernel_rfl) (by kernel_rfl) (by kernel_rfl) (fun _ _ _ h => h) (Or.inl ⟨by rfl, ?hy26⟩) ?ry26
          case hy26 => (intro w; go_simp; (try rw [if_neg (by omega)]); (try with_reducible rfl))
          try simp only [Act.put, List.setIfInBounds_toArray, List.set_cons_zero, List.set_cons_succ, List.getElem_toArray, List.getElem_cons_succ, List.getElem_cons_zero]
          refine wpAny_take (i := 6) (v := ?vy27) rfl (by kernel_rfl) (by kernel_rfl) (by kernel_rfl) (fun _ _ _ h => h) (Or.inl ⟨by rfl, ?hy27⟩) ?ry27
          case hy27 => (intro w; go_simp; (try rw [if_neg (by omega)]); (try with_reducible rfl))
          try simp only [Act.put, List.setIfInBounds_toArray, List.set_cons_zero, List.set_cons_succ, List.getElem_toArray, List.getElem_cons_succ, List.getElem_cons_zero]
          refine wpAny_take (i := 7) (v := ?vy28) rfl (by kernel_rfl) (by kernel_rfl) (by kernel_rfl) (fun _ _ _ h => h) (Or.inl ⟨by rfl, ?hy28⟩) ?ry28
          case hy28 => (intro w; go_simp; (try rw [if_neg (by omega)]); (try with_reducible rfl))
          try simp only [Act.put, List.setIfInBounds_toArray, List.set_cons_zero, List.set_cons_succ, List.getElem_toArray, List.getElem_cons_succ, List.getElem_cons_zero]
          refine wpAny_take (i := 8) (v := ?vy29) rfl (by kernel_rfl) (by kernel_rfl) (by kernel_rfl) (fun _ _ _ h => h) (Or.inl ⟨by rfl, ?hy29⟩) ?ry29
          case hy29 => (intro w; go_simp; (try rw [if_neg (by omega)]); (try with_reducible rfl))
          try simp only [Act.put, List.setIfInBounds_toArray, List.set_cons_zero, List.set_cons_succ, List.getElem_toArray, List.getElem_cons_succ, List.getElem_cons_zero]
          refine wpAny_take (i := 9) (v := ?vy30) rfl (by kernel_rfl) (by kernel_rfl) (by kernel_rfl) (fun _ _ _ h => h) (Or.inl ⟨by rfl, ?hy30⟩) ?ry30
          case hy30 => (intro w; go_simp; (try rw [if_neg (by omega)]); (try with_reducible rfl))
          try simp only [Act.put, List.setIfInBounds_toArray, List.set_cons_zero, List.set_cons_succ, List.getElem_toArray, List.getElem_cons_succ, List.getElem_cons_zero]
          refine wpAny_take (i := 10) (v := ?vy31) rfl (by kernel_rfl) (by kernel_rfl) (by kernel_rfl) (fun _ _ _ h => h) (Or.inl ⟨by rfl, ?hy31⟩) ?ry31
          case hy31 => (intro w; go_simp; (try rw [if_neg (by omega)]); (try with_reducible rfl))
          try simp only [Act.put, List.setIfInBounds_toArray, List.set_cons_zero, List.set_cons_succ, List.getElem_toArray, List.getElem_cons_succ, List.getElem_cons_zero]
          refine wpAny_take (i := 11) (v := ?vy32) rfl (by kernel_rfl) (by kernel_rfl) (by kernel_rfl) (fun _ _ _ h => h) (Or.inl ⟨by rfl, ?hy32⟩) ?ry32
          case hy32 => (intro w; go_simp; (try rw [if_neg (by omega)]); (try with_reducible rfl))
          try simp only [Act.put, List.setIfInBounds_toArray, List.set_cons_zero, List.set_cons_succ, List.getElem_toArray, List.getElem_cons_succ, List.getElem_cons_zero]
          refine wpAny_take (i := 12) (v := ?vy33) rfl (by kernel_rfl) (by kernel_rfl) (by kernel_rfl) (fun _ _ _ h => h) (Or.inl ⟨by rfl, ?hy33⟩) ?ry33
          case hy33 => (intro w; go_simp; (try rw [if_neg (by omega)]); (try with_reducible rfl))
          try simp only [Act.put, List.setIfInBounds_toArray, List.set_cons_zero, List.set_cons_succ, List.getElem_toArray, List.getElem_cons_succ, List.getElem_cons_zero]
          refine wpAny_take (i := 13) (v := ?vy34) rfl (by kernel_rfl) (by kernel_rfl) (by kernel_rfl) (fun _ _ _ h => h) (Or.inl ⟨by rfl, ?hy34⟩) ?ry34
          case hy34 => (intro w; go_simp; (try rw [if_neg (by omega)]); (try with_reducible rfl))
          try simp only [Act.put, List.setIfInBounds_toArray, List.set_cons_zero, List.set_cons_succ, List.getElem_toArray, List.getElem_cons_succ, List.getElem_cons_zero]
          refine wpAny_take (i := 14) (v := ?vy35) rfl (by kernel_rfl) (by kernel_rfl) (by kernel_rfl) (fun _ _ _ h => h) (Or.inl ⟨by rfl, ?hy35⟩) ?ry35
          case hy35 => (intro w; go_simp; (try rw [if_neg (by omega)]); (try with_reducible rfl))
          try simp only [Act.put, List.setIfInBounds_toArray, List.set_cons_zero, List.set_cons_succ, List.getElem_toArray, List.getElem_cons_succ, List.getElem_cons_zero]
          refine wpAny_take (i := 15) (v := ?vy36) rfl (by kernel_rfl) (by kernel_rfl) (by kernel_rfl) (fun _ _ _ h => h) (Or.inl ⟨by rfl, ?hy36⟩) ?ry36
          case hy36 => (intro w; go_simp; (try rw [if_neg (by omega)]); (try with_reducible rfl))
          try simp only [Act.put, List.setIfInBounds_toArray, List.set_cons_zero, List.set_cons_succ, List.getElem_toArray, List.getElem_cons_succ, List.getElem_cons_zero]
          refine wpAny_ready (rs := [0]) (by kernel_rfl) (by simp) ?_
          refine (AllReady.cons rfl (fun K hK => ?_) AllReady.nil)
          · go_simp
            refine hK _ _ ?_
            clear hK K
            try simp only [Act.put, List.setIfInBounds_toArray, List.set_cons_zero, List.set_cons_succ, List.getElem_toArray, List.getElem_cons_succ, List.getElem_cons_zero]
            refine wpAny_ready (rs := [16]) (by kernel_rfl) (by simp) ?_
            refine (AllReady.cons rfl (fun K hK => ?_) AllReady.nil)
            · go_simp
              refine hK _ _ ?_
              clear hK K
              try simp only [Act.put, List.setIfInBounds_toArray, List.set_cons_zero, List.set_cons_succ, List.getElem_toArray, List.getElem_cons_succ, List.getElem_cons_zero]
              refine wpAny_take (i := 17) (v := ?vy37) rfl (by kernel_rfl) (by kernel_rfl) (by kernel_rfl) (fun _ _ _ h => h) (Or.inl ⟨by rfl, ?hy37⟩) ?ry37
              case hy37 => (intro w; go_simp; (try rw [if_neg (by omega)]); (try with_reducible rfl))
              try simp only [Act.put, List.setIfInBounds_toArray, List.set_cons_zero, List.set_cons_succ, List.getElem_toArray, List.getElem_cons_succ, List.getElem_cons_zero]
              refine wpAny_take (i := 18) (v := ?vy38) rfl (by kernel_rfl) (by kernel_rfl) (by kernel_rfl) (fun _ _ _ h => h) (Or.inl ⟨by rfl, ?hy38⟩) ?ry38
              case hy38 => (intro w; go_simp; (try rw [if_neg (by omega)]); (try with_reducible rfl))
              try simp only [Act.put, List.setIfInBounds_toArray, List.set_cons_zero, List.set_cons_succ, List.getElem_toArray, List.getElem_cons_succ, List.getElem_cons_zero]
              refine wpAny_done (by kernel_rfl) ?_ _
              go_wp2_with fail
              have hK := HD.out.get (kVar (w.heap.size) 104 [.int .i64 0, .int .i64 0]) (by simp)
              have hB := HD.out.bel
              have hE := (((show Blk W9 (w.heap.size) 104 _ from hK).set_ 0 (.int .i64 c)).set_ 1 (.int .i64 r))
              have r0 := hE.cell 0
              have r1 := hE.cell 1
              simp at r0 r1
              refine bodyPost_ret (v := .tuple #[.agg #[.int .i64 c, .int .i64 r], .int .i64 (z : Int), .bool false]) (by simp [results, Tryz.results107, go_sem, r0, r1]) rfl ⟨adrout_none c r z HRES.out, ((hB.setCell (by simp) _).setCell (by simp) _)⟩
        · have hb40 : (((s[z]'hzl2).toNat : Int) != 40) = true := by simpa using h40
          have HRES := keep (show addrS (restB s i) = some (c, r, (wrdRun s i).length) by rw [HEQ.out, if_pos ⟨rfl, by rw [par_at hzl2, decide_eq_false h40]⟩])
          clear h40 hzl
          refine wp_region_any (by kernel_rfl) ?_
          change wpAny _ _ _ _ _ _ _ W11.drew
          generalize W11.drew = W9 at HD ⊢
          have F12 := HD.out.sees
          simp only [sees, kBlk, kVar, cellsAt, Nat.reduceAdd] at F12
          obtain ⟨⟨z0, c0_0, c0_1, -⟩, ⟨⟨z1, fz1⟩, c1_0, c1_1, -⟩, -⟩ := F12
          refine wpAny_take (i := 1) (v := ?vy39) rfl (by kernel_rfl) (by kernel_rfl) (by kernel_rfl) (fun _ _ _ h => h) (Or.inl ⟨by rfl, ?hy39⟩) ?ry39
          case hy39 => (intro w; go_simp; (try rw [if_neg (by omega)]); (try with_reducible rfl))
          try simp only [Act.put, List.setIfInBounds_toArray, List.set_cons_zero, List.set_cons_succ, List.getElem_toArray, List.getElem_cons_succ, List.getElem_cons_zero]
          refine wpAny_take (i := 2) (v := ?vy40) rfl (by kernel_rfl) (by kernel_rfl) (by kernel_rfl) (fun _ _ _ h => h) (Or.inl ⟨by rfl, ?hy40⟩) ?ry40
          case hy40 => (intro w; go_simp; (try rw [if_neg (by omega)]); (try with_reducible rfl))
          try simp only [Act.put, List.setIfInBounds_toArray, List.set_cons_zero, List.set_cons_succ, List.getElem_toArray, List.getElem_cons_succ, List.getElem_cons_zero]
          refine wpAny_take (i := 3) (v := ?vy41) rfl (by kernel_rfl) (by kernel_rfl) (by kernel_rfl) (fun _ _ _ h => h) (Or.inl ⟨by rfl, ?hy41⟩) ?ry41
          case hy41 => (intro w; go_simp; (try rw [if_neg (by omega)]); (try with_reducible rfl))
          try simp only [Act.put, List.setIfInBounds_toArray, List.set_cons_zero, List.set_cons_succ, List.getElem_toArray, List.getElem_cons_succ, List.getElem_cons_zero]
          refine wpAny_take (i := 4) (v := ?vy42) rfl (by kernel_rfl) (by kernel_rfl) (by kernel_rfl) (fun _ _ _ h => h) (Or.inl ⟨by rfl, ?hy42⟩) ?ry42
          case hy42 => (intro w; go_simp; (try rw [if_neg (by omega)]); (try with_reducible rfl))
          try simp only [Act.put, List.setIfInBounds_toArray, List.set_cons_zero, List.set_cons_succ, List.getElem_toArray, List.getElem_cons_succ, List.getElem_cons_zero]
          refine wpAny_take (i := 5) (v := ?vy43) rfl (by kernel_rfl) (by kernel_rfl) (by kernel_rfl) (fun _ _ _ h => h) (Or.inl ⟨by rfl, ?hy43⟩) ?ry43
          case hy43 => (intro w; go_simp; (try rw [if_neg (by omega)]); (try with_reducible rfl))
          try simp only [Act.put, List.setIfInBounds_toArray, List.set_cons_zero, List.set_cons_succ, List.getElem_toArray, List.getElem_cons_succ, List.getElem_cons_zero]
          refine wpAny_take (i := 6) (v := ?vy44) rfl (by kernel_rfl) (by kernel_rfl) (by kernel_rfl) (fun _ _ _ h => h) (Or.inl ⟨by rfl, ?hy44⟩) ?ry44
          case hy44 => (intro w; go_simp; (try rw [if_neg (by omega)]); (try with_reducible rfl))
          try simp only [Act.put, List.setIfInBounds_toArray, List.set_cons_zero, List.set_cons_succ, List.getElem_toArray, List.getElem_cons_succ, List.getElem_cons_zero]
          refine wpAny_take (i := 7) (v := ?vy45) rfl (by kernel_rfl) (by kernel_rfl) (by kernel_rfl) (fun _ _ _ h => h) (Or.inl ⟨by rfl, ?hy45⟩) ?ry45
          case hy45 => (intro w; go_simp; (try rw [if_neg (by omega)]); (try with_reducible rfl))
          try simp only [Act.put, List.setIfInBounds_toArray, List.set_cons_zero, List.set_cons_succ, List.getElem_toArray, List.getElem_cons_succ, List.getElem_cons_zero]
          refine wpAny_take (i := 8) (v := ?vy46) rfl (by kernel_rfl) (by kernel_rfl) (by kernel_rfl) (fun _ _ _ h => h) (Or.inl ⟨by rfl, ?hy46⟩) ?ry46
          case hy46 => (intro w; go_simp; (try rw [if_neg (by omega)]); (try with_reducible rfl))
          try simp only [Act.put, List.setIfInBounds_toArray, List.set_cons_zero, List.set_cons_succ, List.getElem_toArray, List.getElem_cons_succ, List.getElem_cons_zero]
          refine wpAny_take (i := 9) (v := ?vy47) rfl (by kernel_rfl) (by kernel_rfl) (by kernel_rfl) (fun _ _ _ h => h) (Or.inl ⟨by rfl, ?hy47⟩) ?ry47
          case hy47 => (intro w; go_simp; (try rw [if_neg (by omega)]); (try with_reducible rfl))
          try simp only [Act.put, List.setIfInBounds_toArray, List.set_cons_zero, List.set_cons_succ, List.getElem_toArray, List.getElem_cons_succ, List.getElem_cons_zero]
          refine wpAny_take (i := 10) (v := ?vy48) rfl (by kernel_rfl) (by kernel_rfl) (by kernel_rfl) (fun _ _ _ h => h) (Or.inl ⟨by rfl, ?hy48⟩) ?ry48
          case hy48 => (intro w; go_simp; (try rw [if_neg (by omega)]); (try with_reducible rfl))
          try simp only [Act.put, List.setIfInBounds_toArray, List.set_cons_zero, List.set_cons_succ, List.getElem_toArray, List.getElem_cons_succ, List.getElem_cons_zero]
          refine wpAny_take (i := 11) (v := ?vy49) rfl (by kernel_rfl) (by kernel_rfl) (by kernel_rfl) (fun _ _ _ h => h) (Or.inl ⟨by rfl, ?hy49⟩) ?ry49
          case hy49 => (intro w; go_simp; (try rw [if_neg (by omega)]); (try with_reducible rfl))
          try simp only [Act.put, List.setIfInBounds_toArray, List.set_cons_zero, List.set_cons_succ, List.getElem_toArray, List.getElem_cons_succ, List.getElem_cons_zero]
          refine wpAny_take (i := 12) (v := ?vy50) rfl (by kernel_rfl) (by kernel_rfl) (by kernel_rfl) (fun _ _ _ h => h) (Or.inl ⟨by rfl, ?hy50⟩) ?ry50
          case hy50 => (intro w; go_simp; (try rw [if_neg (by omega)]); (try with_reducible rfl))
          try simp only [Act.put, List.setIfInBounds_toArray, List.set_cons_zero, List.set_cons_succ, List.getElem_toArray, List.getElem_cons_succ, List.getElem_cons_zero]
          refine wpAny_take (i := 13) (v := ?vy51) rfl (by kernel_rfl) (by kernel_rfl) (by kernel_rfl) (fun _ _ _ h => h) (Or.inl ⟨by rfl, ?hy51⟩) ?ry51
          case hy51 => (intro w; go_simp; (try rw [if_neg (by omega)]); (try with_reducible rfl))
          try simp only [Act.put, List.setIfInBounds_toArray, List.set_cons_zero, List.set_cons_succ, List.getElem_toArray, List.getElem_cons_succ, List.getElem_cons_zero]
          refine wpAny_take (i := 14) (v := ?vy52) rfl (by kernel_rfl) (by kernel_rfl) (by kernel_rfl) (fun _ _ _ h => h) (Or.inl ⟨by rfl, ?hy52⟩) ?ry52
          case hy52 => (intro w; go_simp; (try rw [if_neg (by omega)]); (try with_reducible rfl))
          try simp only [Act.put, List.setIfInBounds_toArray, List.set_cons_zero, List.set_cons_succ, List.getElem_toArray, List.getElem_cons_succ, List.getElem_cons_zero]
          refine wpAny_take (i := 15) (v := ?vy53) rfl (by kernel_rfl) (by kernel_rfl) (by kernel_rfl) (fun _ _ _ h => h) (Or.inl ⟨by rfl, ?hy53⟩) ?ry53
          case hy53 => (intro w; go_simp; (try rw [if_neg (by omega)]); (try with_reducible rfl))
          try simp only [Act.put, List.setIfInBounds_toArray, List.set_cons_zero, List.set_cons_succ, List.getElem_toArray, List.getElem_cons_succ, List.getElem_cons_zero]
          refine wpAny_ready (rs := [0]) (by kernel_rfl) (by simp) ?_
          refine (AllReady.cons rfl (fun K hK => ?_) AllReady.nil)
          · go_simp
            refine hK _ _ ?_
            clear hK K
            try simp only [Act.put, List.setIfInBounds_toArray, List.set_cons_zero, List.set_cons_succ, List.getElem_toArray, List.getElem_cons_succ, List.getElem_cons_zero]
            refine wpAny_ready (rs := [16]) (by kernel_rfl) (by simp) ?_
            refine (AllReady.cons rfl (fun K hK => ?_) AllReady.nil)
            · go_simp
              refine hK _ _ ?_
              clear hK K
              try simp only [Act.put, List.setIfInBounds_toArray, List.set_cons_zero, List.set_cons_succ, List.getElem_toArray, List.getElem_cons_succ, List.getElem_cons_zero]
              refine wpAny_take (i := 17) (v := ?vy54) rfl (by kernel_rfl) (by kernel_rfl) (by kernel_rfl) (fun _ _ _ h => h) (Or.inl ⟨by rfl, ?hy54⟩) ?ry54
              case hy54 => (intro w; go_simp; (try rw [if_neg (by omega)]); (try with_reducible rfl))
              try simp only [Act.put, List.setIfInBounds_toArray, List.set_cons_zero, List.set_cons_succ, List.getElem_toArray, List.getElem_cons_succ, List.getElem_cons_zero]
              refine wpAny_take (i := 18) (v := ?vy55) rfl (by kernel_rfl) (by kernel_rfl) (by kernel_rfl) (fun _ _ _ h => h) (Or.inl ⟨by rfl, ?hy55⟩) ?ry55
              case hy55 => (intro w; go_simp; (try rw [if_neg (by omega)]); (try with_reducible rfl))
              try simp only [Act.put, List.setIfInBounds_toArray, List.set_cons_zero, List.set_cons_succ, List.getElem_toArray, List.getElem_cons_succ, List.getElem_cons_zero]
              refine wpAny_done (by kernel_rfl) ?_ _
              go_wp2_with fail
              have hK := HD.out.get (kVar (w.heap.size) 104 [.int .i64 0, .int .i64 0]) (by simp)
              have hB := HD.out.bel
              have hE := (((show Blk W9 (w.heap.size) 104 _ from hK).set_ 0 (.int .i64 c)).set_ 1 (.int .i64 r))
              have r0 := hE.cell 0
              have r1 := hE.cell 1
              simp at r0 r1
              refine bodyPost_ret (v := .tuple #[.agg #[.int .i64 c, .int .i64 r], .int .i64 (z : Int), .bool true]) (by simp [results, Tryz.results107, go_sem, r0, r1]) rfl ⟨adrout_some z HRES.out HZ.out.symm, ((hB.setCell (by simp) _).setCell (by simp) _)⟩
    · have h0b : (e0 == 0) = false := by simpa using h0
      have HRES := keep (show addrS (restB s i) = none by rw [HEQ.out, if_neg]; rintro ⟨h, -⟩; exact h0 h)
      clear h0
      refine wp_region_any (by kernel_rfl) ?_
      change wpAny _ _ _ _ _ _ _ W11.drew
      generalize W11.drew = W9 at HD ⊢
      have F12 := HD.out.sees
      simp only [sees, kBlk, kVar, cellsAt, Nat.reduceAdd] at F12
      obtain ⟨⟨z0, c0_0, c0_1, -⟩, ⟨⟨z1, fz1⟩, c1_0, c1_1, -⟩, -⟩ := F12
      refine wpAny_take (i := 1) (v := ?vy56) rfl (by kernel_rfl) (by kernel_rfl) (by kernel_rfl) (fun _ _ _ h => h) (Or.inl ⟨by rfl, ?hy56⟩) ?ry56
      case hy56 => (intro w; go_simp; (try rw [if_neg (by omega)]); (try with_reducible rfl))
      try simp only [Act.put, List.setIfInBounds_toArray, List.set_cons_zero, List.set_cons_succ, List.getElem_toArray, List.getElem_cons_succ, List.getElem_cons_zero]
      refine wpAny_take (i := 2) (v := ?vy57) rfl (by kernel_rfl) (by kernel_rfl) (by kernel_rfl) (fun _ _ _ h => h) (Or.inl ⟨by rfl, ?hy57⟩) ?ry57
      case hy57 => (intro w; go_simp; (try rw [if_neg (by omega)]); (try with_reducible rfl))
      try simp only [Act.put, List.setIfInBounds_toArray, List.set_cons_zero, List.set_cons_succ, List.getElem_toArray, List.getElem_cons_succ, List.getElem_cons_zero]
      refine wpAny_take (i := 3) (v := ?vy58) rfl (by kernel_rfl) (by kernel_rfl) (by kernel_rfl) (fun _ _ _ h => h) (Or.inl ⟨by rfl, ?hy58⟩) ?ry58
      case hy58 => (intro w; go_simp; (try rw [if_neg (by omega)]); (try with_reducible rfl))
      try simp only [Act.put, List.setIfInBounds_toArray, List.set_cons_zero, List.set_cons_succ, List.getElem_toArray, List.getElem_cons_succ, List.getElem_cons_zero]
      refine wpAny_take (i := 4) (v := ?vy59) rfl (by kernel_rfl) (by kernel_rfl) (by kernel_rfl) (fun _ _ _ h => h) (Or.inl ⟨by rfl, ?hy59⟩) ?ry59
      case hy59 => (intro w; go_simp; (try rw [if_neg (by omega)]); (try with_reducible rfl))
      try simp only [Act.put, List.setIfInBounds_toArray, List.set_cons_zero, List.set_cons_succ, List.getElem_toArray, List.getElem_cons_succ, List.getElem_cons_zero]
      refine wpAny_take (i := 5) (v := undef) rfl (by kernel_rfl) (by kernel_rfl) (by kernel_rfl) (fun _ _ _ h => h) (Or.inr ⟨by rfl, rfl⟩) ?_
      try simp only [Act.put, List.setIfInBounds_toArray, List.set_cons_zero, List.set_cons_succ, List.getElem_toArray, List.getElem_cons_succ, List.getElem_cons_zero]
      refine wpAny_take (i := 6) (v := undef) rfl (by kernel_rfl) (by kernel_rfl) (by kernel_rfl) (fun _ _ _ h => h) (Or.inr ⟨by rfl, rfl⟩) ?_
      try simp only [Act.put, List.setIfInBounds_toArray, List.set_cons_zero, List.set_cons_succ, List.getElem_toArray, List.getElem_cons_succ, List.getElem_cons_zero]
      refine wpAny_take (i := 7) (v := undef) rfl (by kernel_rfl) (by kernel_rfl) (by kernel_rfl) (fun _ _ _ h => h) (Or.inr ⟨by rfl, rfl⟩) ?_
      try simp only [Act.put, List.setIfInBounds_toArray, List.set_cons_zero, List.set_cons_succ, List.getElem_toArray, List.getElem_cons_succ, List.getElem_cons_zero]
      refine wpAny_take (i := 8) (v := undef) rfl (by kernel_rfl) (by kernel_rfl) (by kernel_rfl) (fun _ _ _ h => h) (Or.inr ⟨by rfl, rfl⟩) ?_
      try simp only [Act.put, List.setIfInBounds_toArray, List.set_cons_zero, List.set_cons_succ, List.getElem_toArray, List.getElem_cons_succ, List.getElem_cons_zero]
      refine wpAny_take (i := 9) (v := undef) rfl (by kernel_rfl) (by kernel_rfl) (by kernel_rfl) (fun _ _ _ h => h) (Or.inr ⟨by rfl, rfl⟩) ?_
      try simp only [Act.put, List.setIfInBounds_toArray, List.set_cons_zero, List.set_cons_succ, List.getElem_toArray, List.getElem_cons_succ, List.getElem_cons_zero]
      refine wpAny_take (i := 10) (v := undef) rfl (by kernel_rfl) (by kernel_rfl) (by kernel_rfl) (fun _ _ _ h => h) (Or.inr ⟨by rfl, rfl⟩) ?_
      try simp only [Act.put, List.setIfInBounds_toArray, List.set_cons_zero, List.set_cons_succ, List.getElem_toArray, List.getElem_cons_succ, List.getElem_cons_zero]
      refine wpAny_take (i := 11) (v := undef) rfl (by kernel_rfl) (by kernel_rfl) (by kernel_rfl) (fun _ _ _ h => h) (Or.inr ⟨by rfl, rfl⟩) ?_
      try simp only [Act.put, List.setIfInBounds_toArray, List.set_cons_zero, List.set_cons_succ, List.getElem_toArray, List.getElem_cons_succ, List.getElem_cons_zero]
      refine wpAny_take (i := 12) (v := undef) rfl (by kernel_rfl) (by kernel_rfl) (by kernel_rfl) (fun _ _ _ h => h) (Or.inr ⟨by rfl, rfl⟩) ?_
      try simp only [Act.put, List.setIfInBounds_toArray, List.set_cons_zero, List.set_cons_succ, List.getElem_toArray, List.getElem_cons_succ, List.getElem_cons_zero]
      refine wpAny_take (i := 13) (v := undef) rfl (by kernel_rfl) (by kernel_rfl) (by kernel_rfl) (fun _ _ _ h => h) (Or.inr ⟨by rfl, rfl⟩) ?_
      try simp only [Act.put, List.setIfInBounds_toArray, List.set_cons_zero, List.set_cons_succ, List.getElem_toArray, List.getElem_cons_succ, List.getElem_cons_zero]
      refine wpAny_take (i := 14) (v := undef) rfl (by kernel_rfl) (by kernel_rfl) (by kernel_rfl) (fun _ _ _ h => h) (Or.inr ⟨by rfl, rfl⟩) ?_
      try simp only [Act.put, List.setIfInBounds_toArray, List.set_cons_zero, List.set_cons_succ, List.getElem_toArray, List.getElem_cons_succ, List.getElem_cons_zero]
      refine wpAny_take (i := 15) (v := ?vy60) rfl (by kernel_rfl) (by kernel_rfl) (by kernel_rfl) (fun _ _ _ h => h) (Or.inl ⟨by rfl, ?hy60⟩) ?ry60
      case hy60 => (intro w; go_simp; (try rw [if_neg (by omega)]); (try with_reducible rfl))
      try simp only [Act.put, List.setIfInBounds_toArray, List.set_cons_zero, List.set_cons_succ, List.getElem_toArray, List.getElem_cons_succ, List.getElem_cons_zero]
      refine wpAny_ready (rs := [0]) (by kernel_rfl) (by simp) ?_
      refine (AllReady.cons rfl (fun K hK => ?_) AllReady.nil)
      · go_simp
        refine hK _ _ ?_
        clear hK K
        try simp only [Act.put, List.setIfInBounds_toArray, List.set_cons_zero, List.set_cons_succ, List.getElem_toArray, List.getElem_cons_succ, List.getElem_cons_zero]
        refine wpAny_ready (rs := [16]) (by kernel_rfl) (by simp) ?_
        refine (AllReady.cons rfl (fun K hK => ?_) AllReady.nil)
        · go_simp
          refine hK _ _ ?_
          clear hK K
          try simp only [Act.put, List.setIfInBounds_toArray, List.set_cons_zero, List.set_cons_succ, List.getElem_toArray, List.getElem_cons_succ, List.getElem_cons_zero]
          refine wpAny_take (i := 17) (v := ?vy61) rfl (by kernel_rfl) (by kernel_rfl) (by kernel_rfl) (fun _ _ _ h => h) (Or.inl ⟨by rfl, ?hy61⟩) ?ry61
          case hy61 => (intro w; go_simp; (try rw [if_neg (by omega)]); (try with_reducible rfl))
          try simp only [Act.put, List.setIfInBounds_toArray, List.set_cons_zero, List.set_cons_succ, List.getElem_toArray, List.getElem_cons_succ, List.getElem_cons_zero]
          refine wpAny_take (i := 18) (v := ?vy62) rfl (by kernel_rfl) (by kernel_rfl) (by kernel_rfl) (fun _ _ _ h => h) (Or.inl ⟨by rfl, ?hy62⟩) ?ry62
          case hy62 => (intro w; go_simp; (try rw [if_neg (by omega)]); (try with_reducible rfl))
          try simp only [Act.put, List.setIfInBounds_toArray, List.set_cons_zero, List.set_cons_succ, List.getElem_toArray, List.getElem_cons_succ, List.getElem_cons_zero]
          refine wpAny_done (by kernel_rfl) ?_ _
          go_wp2_with fail
          have hK := HD.out.get (kVar (w.heap.size) 104 [.int .i64 0, .int .i64 0]) (by simp)
          have hB := HD.out.bel
          have hE := (((show Blk W9 (w.heap.size) 104 _ from hK).set_ 0 (.int .i64 c)).set_ 1 (.int .i64 r))
          have r0 := hE.cell 0
          have r1 := hE.cell 1
          simp at r0 r1
          refine bodyPost_ret (v := .tuple #[.agg #[.int .i64 c, .int .i64 r], .int .i64 (z : Int), .bool false]) (by simp [results, Tryz.results107, go_sem, r0, r1]) rfl ⟨adrout_none c r z HRES.out, ((hB.setCell (by simp) _).setCell (by simp) _)⟩
end Go.Proofs.YtlngjiibbcgkmaaGreatDoor
