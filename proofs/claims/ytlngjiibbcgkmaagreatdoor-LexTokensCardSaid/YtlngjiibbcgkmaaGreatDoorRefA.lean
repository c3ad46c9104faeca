/- Contracts of the reference lexer's number and text. -/
import Derived.Test.YtlngjiibbcgkmaaGreatDoorLexE
import Derived.Test.YtlngjiibbcgkmaaGreatDoorLexF
import Derived.Test.YtlngjiibbcgkmaaGreatDoorLexJ
namespace Go.Proofs.YtlngjiibbcgkmaaGreatDoor
open Go.RowKit

/-- what a rule of the reference hands back: the token, its end, and whether there is one -/
def RefOut (i : Nat) (r : Option (Tk × Nat)) (e : Ending) : Prop := ∃ (t : Tk) (n : Nat), e = .returned (.tuple #[tkA t, .int .i64 (n : Int), .bool r.isSome]) ∧ ∀ x, r = some x → t = x.1 ∧ n = i + x.2
theorem refout_none {i : Nat} {r : Option (Tk × Nat)} (t : Tk) (h : r = none) : RefOut i r (.returned (.tuple #[tkA t, .int .i64 0, .bool false])) :=
  ⟨t, 0, by rw [h]; rfl, fun x hx => by rw [h] at hx; cases hx⟩
theorem refout_some {i n : Nat} {r : Option (Tk × Nat)} {t : Tk} (m : Nat) (h : r = some (t, n)) (hm : m = i + n) : RefOut i r (.returned (.tuple #[tkA t, .int .i64 (m : Int), .bool true])) :=
  ⟨t, m, by rw [h]; rfl, fun x hx => by rw [h] at hx; cases hx; exact ⟨rfl, hm⟩⟩
theorem dig_run (s : ByteArray) (i : Nat) : (digRun s i).length = if testAt isDig s i = true then (digRun s (i + 1)).length + 1 else 0 := by
  unfold digRun testAt
  cases h : s.data.toList[i]? with
  | none =>
    rw [List.drop_of_length_le (List.getElem?_eq_none_iff.1 h)]
    rfl
  | some b =>
    obtain ⟨hi, rfl⟩ := List.getElem?_eq_some_iff.1 h
    rw [List.drop_eq_getElem_cons hi, List.takeWhile_cons]
    show _ = if isDig s.data.toList[i] = true then _ else _
    split <;> simp
theorem take_run (p : UInt8 → Bool) (l : List UInt8) : l.take (l.takeWhile p).length = l.takeWhile p := by
  obtain ⟨h, -, -⟩ := run_split p l
  generalize l.takeWhile p = a at h ⊢
  generalize l.dropWhile p = b at h
  subst h
  exact List.take_left
theorem valD_snoc (l : List UInt8) (b : UInt8) : valD (l ++ [b]) = 10 * valD l + (b.toNat - 48) := by
  unfold valD
  rw [List.foldl_append]
  rfl
theorem valD_le (l m : List UInt8) : valD l ≤ valD (l ++ m) := by
  induction m generalizing l with
  | nil => simp
  | cons b m ih =>
    have h1 := ih (l ++ [b])
    rw [valD_snoc, List.append_assoc] at h1
    simp at h1
    omega
theorem num_over {l a : List UInt8} {i k : Nat} (h0 : (l.takeWhile isDig) ++ placesS (l.dropWhile isDig) ++ List.replicate (4 - (placesS (l.dropWhile isDig)).length) 48 = a) (h : mostN < valD (a.take k)) : numR l i = none := by
  apply num_great
  unfold numV
  rw [h0]
  have := valD_le (a.take k) (a.drop k)
  rw [List.take_append_drop] at this
  omega
theorem test_lt {p : UInt8 → Bool} {s : ByteArray} {i : Nat} (h : testAt p s i = true) : i < s.size := by
  rcases Nat.lt_or_ge i s.size with h1 | h1
  · exact h1
  · rw [test_out (by omega)] at h; cases h
theorem places_at {s : ByteArray} {z : Nat} (h : testAt (· == 46) s z = true) : placesS (s.data.toList.drop z) = digRun s (z + 1) := by
  have hz := test_lt h
  rw [test_in hz] at h
  have e : s[z]'hz = 46 := by simpa using h
  rw [List.drop_eq_getElem_cons (by rw [Array.length_toList]; exact hz)]
  show (if s[z]'hz = 46 then _ else _) = _
  rw [if_pos e]
  rfl
theorem places_off {s : ByteArray} {z : Nat} (h : testAt (· == 46) s z = false) : placesS (s.data.toList.drop z) = [] := by
  apply places_none
  unfold testAt at h
  rw [List.head?_drop]
  intro e
  rw [e] at h
  simp at h
theorem places_dot {s : ByteArray} {z : Nat} (h : testAt isDig s (z + 1) = false) : placesS (s.data.toList.drop z) = [] := by
  cases h4 : testAt (· == 46) s z
  · exact places_off h4
  · rw [places_at h4]
    have := dig_run s (z + 1)
    rw [h] at this
    exact List.length_eq_zero_iff.1 (by simpa using this)
theorem dot_at {s : ByteArray} {z : Nat} (h : z < s.size) : testAt (· == 46) s z = decide (((s[z]'h).toNat : Int) = 46) := by
  rw [test_in h, Bool.eq_iff_iff, beq_iff_eq, decide_eq_true_eq, ← UInt8.toNat_inj]
  show _ = 46 ↔ _
  omega
theorem ref7_digitI (s : ByteArray) (j : Int) (i : Nat) (w : World) (hj : j = (i : Int)) :
    Calls Tryz.prog 69 #[.string s, .int .i64 j] w fun e w' => e = .returned (.bool (testAt isDig s i)) ∧ w' = w := by
  subst hj
  exact ref7_digit s i w
set_option maxRecDepth 100000 in
set_option maxHeartbeats 8000000 in
theorem ref7_number (s : ByteArray) (i : Nat) (w : World) (hs : s.size ≤ 256) (hd : testAt isDig s i = true) :
    Calls Tryz.prog 70 #[.string s, .int .i64 (i : Int)] w fun e w' => RefOut i (numR (restB s i) i) e ∧ Below w.heap.size w w' := by
  have hsl : s.data.toList.length = s.size := by rw [Array.length_toList]; rfl
  have hi := test_lt hd
  obtain ⟨hl, hrun, hstop⟩ := run_split isDig (restB s i)
  have hrl : (restB s i).length + i = s.size := by unfold restB; rw [List.length_drop]; omega
  have hdr : digRun s i = (restB s i).takeWhile isDig := rfl
  obtain ⟨u, hu⟩ : ∃ u, (restB s i).takeWhile isDig = u := ⟨_, rfl⟩
  obtain ⟨d, hdw⟩ : ∃ d, (restB s i).dropWhile isDig = d := ⟨_, rfl⟩
  rw [hu] at hl hrun hdr
  rw [hdw] at hl hstop
  have hul : 1 ≤ u.length := by
    have h9 := dig_run s i
    rw [hd, hdr] at h9
    simp at h9
    omega
  obtain ⟨z, hz⟩ : ∃ z, i + u.length = z := ⟨_, rfl⟩
  have hzs : z ≤ s.size := by rw [hl, List.length_append] at hrl; omega
  have hiz : i < z := by omega
  have hdz : s.data.toList.drop z = d := by
    have h9 : s.data.toList.drop z = (restB s i).drop u.length := by unfold restB; rw [List.drop_drop, hz]
    rw [h9, hl, List.drop_left]
  have hW : (s.extract i z).data.toList = u := by
    rw [Lib.extract_data, ← hz, Nat.add_sub_cancel_left]
    show (restB s i).take u.length = u
    rw [hl, List.take_left]
  have hWs : (s.extract i z).size ≤ 256 := by rw [ByteArray.size_extract]; omega
  have HU := keep hu
  have HDW := keep hdw
  have HZ := keep hz
  have HDR := keep (show i + (digRun s i).length = z by rw [hdr]; exact hz)
  have HDZ := keep hdz
  have HRUN := keep hrun
  have HW := keep hW
  have HWS := keep hWs
  have HNE := keep (show u ≠ [] by rintro rfl; simp at hul)
  clear hsl hl hrun hstop hrl hdr hu hdw hul hz hdz hW hd hWs
  have H1 := Lib.hid (Ok.start w)
  go_enter Tryz.func70, Tryz.ntmps70
  go_wp2_with fail
  have H2 := Lib.hid ((H1.out.var w.heap.size 43 [.int .u8 0, .int .i64 0, .string ⟨#[]⟩, .int .i64 0, .int .i64 0, .int .i64 0, .int .i64 0, .int .i64 0] rfl).var (w.heap.size + 1) 43 [.int .u8 1, .int .i64 0, .string ⟨#[]⟩, .int .i64 0, .int .i64 0, .int .i64 0, .int .i64 0, .int .i64 (i : Int)] (by simp))
  clear H1
  generalize ((w.alloc (.cells #[.int .u8 0, .int .i64 0, .string ⟨#[]⟩, .int .i64 0, .int .i64 0, .int .i64 0, .int .i64 0, .int .i64 0] 43)).alloc (.cells #[.int .u8 1, .int .i64 0, .string ⟨#[]⟩, .int .i64 0, .int .i64 0, .int .i64 0, .int .i64 0, .int .i64 (i : Int)] 43)) = W3 at H2 ⊢
  go_loopw [8] (fun ev wr => ∃ k : Nat, i ≤ k ∧ k ≤ s.size ∧ ev = .int .i64 (k : Int) ∧ Keep (k + (digRun s k).length = z) ∧ wr = W3) (fun ev _ => s.size - (intOf ev).toNat)
  case atStart => exact ⟨i, Nat.le_refl _, Nat.le_of_lt hi, rfl, HDR, rfl⟩
  case round =>
    clear HDR
    obtain ⟨k, hik, hk, rfl, HX, hwr⟩ := hrel
    obtain rfl : W3 = wr := hwr.symm
    have hrn := dig_run s k
    cases hD : testAt isDig s k
    · rw [hD] at hrn
      have hkz : k = z := by have h9 := HX.out; rw [hrn] at h9; simpa using h9
      have HDD := keep hD
      clear HX hrn hD hik hk hi
      subst hkz
      have hiz2 : (i : Int) ≤ (k : Int) := by omega
      have hks2 : (k : Int) ≤ (s.size : Int) := by omega
      have HIK := keep hiz
      clear hiz
      go_wp2_with fail
      refine (ref7_digit s k _).mono ?_
      rintro e w1 ⟨rfl, hw1⟩
      obtain rfl : W3 = w1 := hw1.symm
      rw [HDD.out]
      go_upto_region 6 with fail
      obtain ⟨b, hb⟩ : ∃ b, (testAt (· == 46) s k && testAt isDig s (k + 1)) = b := ⟨_, rfl⟩
      have HB := keep hb
      clear hb
      go_cut [42] (fun s42 wx => s42 = .bool b ∧ wx = W3)
      case first =>
        by_cases h1 : (k : Int) < s.size
        · have hkl : k < s.size := by omega
          have hda := dot_at hkl
          by_cases h2 : ((s[k]'hkl).toNat : Int) = 46
          · rw [decide_eq_true h2] at hda
            have hB := HB.out
            rw [hda, Bool.true_and] at hB
            have h2' : (((s[k]'hkl).toNat : Int) == 46) = true := by rw [h2]; rfl
            have HB2 := keep hB
            clear hda hB h2
            go_wp2_with fail
            refine (ref7_digitI s _ (k + 1) _ (by omega)).mono ?_
            rintro e w2 ⟨rfl, hw2⟩
            obtain rfl : W3 = w2 := hw2.symm
            rw [HB2.out]
            go_wp2_with fail
            all_goals (go_meet; exact ⟨rfl, rfl⟩)
          · rw [decide_eq_false h2] at hda
            have hB := HB.out
            rw [hda, Bool.false_and] at hB
            subst hB
            have h2' : (((s[k]'hkl).toNat : Int) == 46) = false := by simpa using h2
            clear hda h2
            go_wp2_with fail
            go_meet
            exact ⟨rfl, rfl⟩
        · have hB := HB.out
          rw [test_out (by omega), Bool.false_and] at hB
          subst hB
          go_wp2_with fail
          go_meet
          exact ⟨rfl, rfl⟩
      case rest =>
        obtain ⟨rfl, hwc⟩ := hcut
        obtain rfl : W3 = wc := hwc.symm
        go_upto_if 42 with fail
        go_cut [8, 10] (fun s8 s10 wx => ∃ (p : ByteArray) (q : Nat), s8 = .int .i64 (q : Int) ∧ s10 = .string p ∧ p.size ≤ 256 ∧ q ≤ s.size ∧ Keep (p.data.toList = placesS d) ∧ Keep (q = k + if placesS d = [] then 0 else (placesS d).length + 1) ∧ wx = W3)
        case first =>
          cases b
          · have hP : placesS d = [] := by
              rw [← HDZ.out]
              have hB := HB.out
              rw [Bool.and_eq_false_iff] at hB
              rcases hB with hB | hB
              · exact places_off hB
              · exact places_dot hB
            have HP := keep hP
            clear hP
            go_wp2_with fail
            go_meet
            exact ⟨⟨#[]⟩, k, rfl, rfl, by decide, by omega, keep (by rw [HP.out]), keep (by rw [if_pos HP.out, Nat.add_zero]), rfl⟩
          · have hB := HB.out
            rw [Bool.and_eq_true] at hB
            obtain ⟨h46, hd1⟩ := hB
            have hk1 := test_lt hd1
            have HP := keep (show placesS d = digRun s (k + 1) by rw [← HDZ.out]; exact places_at h46)
            have hk2 : (k : Int) + 1 = ((k + 1 : Nat) : Int) := by omega
            have hd2 := dig_run s (k + 1)
            rw [hd1] at hd2
            have HPN := keep (show placesS d ≠ [] by rw [HP.out]; intro e; rw [e] at hd2; simp at hd2)
            obtain ⟨y, hy⟩ : ∃ y, k + 1 = y := ⟨_, rfl⟩
            rw [hy] at hk1 hk2
            obtain ⟨v, hv⟩ : ∃ v, y + (digRun s y).length = v := ⟨_, rfl⟩
            have HY := keep hy
            have HV := keep hv
            clear h46 hd1 hd2 hv hy
            go_wp2_with fail
            go_loopw [8] (fun ev wr => ∃ q : Nat, y ≤ q ∧ q ≤ s.size ∧ ev = .int .i64 (q : Int) ∧ Keep (q + (digRun s q).length = v) ∧ wr = W3) (fun ev _ => s.size - (intOf ev).toNat)
            case atStart => exact ⟨y, Nat.le_refl _, by omega, by go_num, HV, rfl⟩
            case round =>
              obtain ⟨q, hyq, hq, rfl, HX, hwr⟩ := hrel
              obtain rfl : W3 = wr := hwr.symm
              have hrn := dig_run s q
              cases hD : testAt isDig s q
              · rw [hD] at hrn
                have hqv : q = v := by have h9 := HX.out; rw [hrn] at h9; simpa using h9
                have HDD := keep hD
                clear HX hrn hD
                subst hqv
                have hyq2 : (y : Int) ≤ (q : Int) := by omega
                have hqs2 : (q : Int) ≤ (s.size : Int) := by omega
                have HPD := keep (show (s.extract y q).data.toList = placesS d by
                  rw [HP.out, HY.out, Lib.extract_data, ← HV.out, Nat.add_sub_cancel_left]
                  exact take_run isDig (restB s y))
                have HPS := keep (show (s.extract y q).size ≤ 256 by rw [ByteArray.size_extract]; omega)
                have HQ := keep (show q = k + ((placesS d).length + 1) by rw [HP.out, HY.out]; have := HV.out; have := HY.out; omega)
                go_wp2_with fail
                refine (ref7_digit s q _).mono ?_
                rintro e w4 ⟨rfl, hw5⟩
                obtain rfl : W3 = w4 := hw5.symm
                rw [HDD.out]
                go_wp2_with fail
                go_meet
                exact ⟨s.extract y q, q, rfl, rfl, HPS.out, by omega, HPD, keep (by rw [if_neg HPN.out]; exact HQ.out), rfl⟩
              · have hql := test_lt hD
                rw [hD] at hrn
                have HZ2 := keep (show q + 1 + (digRun s (q + 1)).length = v by have h9 := HX.out; rw [hrn] at h9; simp at h9; omega)
                have HDD := keep hD
                clear HX hrn hD
                go_wp2_with fail
                refine (ref7_digit s q _).mono ?_
                rintro e w4 ⟨rfl, hw5⟩
                obtain rfl : W3 = w4 := hw5.symm
                rw [HDD.out]
                go_wp2_with fail
                go_roundw
                case rel => exact ⟨q + 1, by omega, by omega, by go_num, HZ2, by first | trivial | rfl⟩
                case measure => simp [intOf]; omega
        case rest =>
          obtain ⟨p, q, rfl, rfl, hp, hq, HP, HQ, hwc⟩ := hcut
          obtain rfl : W3 = wc := hwc.symm
          clear HB
          by_cases h4 : (p.size : Int) > 4
          · have HL := keep (show 4 < (placesS ((restB s i).dropWhile isDig)).length by rw [HDW.out, ← HP.out, Array.length_toList]; show 4 < p.size; omega)
            have F4 := H2.out.sees
            simp only [sees, kVar, cellsAt, Nat.reduceAdd] at F4
            obtain ⟨⟨⟨z0, fz0⟩, c0_0, c0_1, c0_2, c0_3, c0_4, c0_5, c0_6, c0_7, -⟩, ⟨⟨z1, fz1⟩, c1_0, c1_1, c1_2, c1_3, c1_4, c1_5, c1_6, c1_7, -⟩, -⟩ := F4
            go_wp2_with fail
            have hK := H2.out.get (kVar (w.heap.size) 43 [.int .u8 0, .int .i64 0, .string ⟨#[]⟩, .int .i64 0, .int .i64 0, .int .i64 0, .int .i64 0, .int .i64 0]) (by simp)
            have hB := H2.out.bel
            have hE := (((((((((show Blk W3 (w.heap.size) 43 _ from hK).set_ 0 (.int .u8 1)).set_ 1 (.int .i64 0)).set_ 2 (.string ⟨#[]⟩)).set_ 3 (.int .i64 0)).set_ 4 (.int .i64 0)).set_ 5 (.int .i64 0)).set_ 6 (.int .i64 0)).set_ 7 (.int .i64 (i : Int)))
            have r0 := hE.cell 0
            have r1 := hE.cell 1
            have r2 := hE.cell 2
            have r3 := hE.cell 3
            have r4 := hE.cell 4
            have r5 := hE.cell 5
            have r6 := hE.cell 6
            have r7 := hE.cell 7
            simp at r0 r1 r2 r3 r4 r5 r6 r7
            refine bodyPost_ret (v := .tuple #[.agg #[.int .u8 1, .int .i64 0, .string ⟨#[]⟩, .int .i64 0, .int .i64 0, .int .i64 0, .int .i64 0, .int .i64 (i : Int)], .int .i64 0, .bool false]) (by simp [results, Tryz.results70, go_sem, r0, r1, r2, r3, r4, r5, r6, r7]) rfl ⟨refout_none ⟨1, 0, [], R4.zero, i⟩ (num_long HL.out), ((((((((hB.setCell (by simp) _).setCell (by simp) _).setCell (by simp) _).setCell (by simp) _).setCell (by simp) _).setCell (by simp) _).setCell (by simp) _).setCell (by simp) _)⟩
          · have hp4 : p.size ≤ 4 := by omega
            go_wp2_with fail
            go_loopg [10] (4 - p.size) (fun gf pv wr => ∃ x : ByteArray, gf = 4 - x.size ∧ pv = .string x ∧ x.size ≤ 4 ∧ p.size ≤ x.size ∧ Keep (x.data.toList = placesS d ++ List.replicate (x.size - p.size) 48) ∧ wr = W3)
            case atStart => exact ⟨p, rfl, rfl, hp4, Nat.le_refl _, keep (by rw [Nat.sub_self, List.replicate_zero, List.append_nil]; exact HP.out), rfl⟩
            case round =>
              obtain ⟨x, hgx, rfl, hx4, hpx, HX, hwr⟩ := hrel
              obtain rfl : W3 = wr := hwr.symm
              subst hgx
              by_cases hlt : (x.size : Int) < 4
              · have HX2 := keep (show (x ++ (⟨#[48]⟩ : ByteArray)).data.toList = placesS d ++ List.replicate ((x ++ (⟨#[48]⟩ : ByteArray)).size - p.size) 48 by
                  rw [ByteArray.data_append, Array.toList_append, HX.out, ByteArray.size_append, show x.size + (⟨#[48]⟩ : ByteArray).size - p.size = (x.size - p.size) + 1 by show x.size + 1 - _ = _; omega, List.replicate_succ', List.append_assoc])
                have HX3 := keep (show (x ++ (⟨#[48]⟩ : ByteArray)).size = x.size + 1 by rw [ByteArray.size_append]; rfl)
                go_wp2_with fail
                go_roundg (4 - (x.size + 1))
                case rel => exact ⟨x ++ ⟨#[48]⟩, by rw [HX3.out], rfl, by rw [HX3.out]; omega, by rw [HX3.out]; omega, HX2, rfl⟩
                case measure => omega
              · have hxe : x.size = 4 := by omega
                have hpl : p.size = (placesS d).length := by rw [← HP.out, Array.length_toList]; rfl
                have hY : (s.extract i k ++ x).data.toList = u ++ placesS d ++ List.replicate (4 - (placesS d).length) 48 := by
                  rw [ByteArray.data_append, Array.toList_append, HW.out, HX.out, hxe, hpl, List.append_assoc]
                have hYs : (s.extract i k ++ x).size ≤ 300 := by rw [ByteArray.size_append]; have := HWS.out; omega
                have hYd : ∀ b ∈ (s.extract i k ++ x).data.toList, isDig b = true := by
                  intro b hb
                  rw [hY] at hb
                  rcases List.mem_append.1 hb with hb | hb
                  · rcases List.mem_append.1 hb with hb | hb
                    · exact HRUN.out b hb
                    · cases d with
                      | nil => simp [placesS] at hb
                      | cons c r =>
                        rw [places_cons] at hb
                        split at hb
                        · exact (run_split isDig r).2.1 b hb
                        · simp at hb
                  · rw [List.mem_replicate] at hb
                    rw [hb.2]
                    decide
                have HY := keep hY
                have HYD := keep hYd
                have HPL := keep (show (placesS d).length ≤ 4 by omega)
                clear hY hYd hpl
                go_upto_region 17 with fail
                generalize s.extract i k ++ x = Y at HY HYD hYs ⊢
                clear HX hxe hx4 hpx hlt hp4 hp h4 HP
                go_wp2_with fail
                go_loopw [13] (fun jv wr => ∃ (j : Nat) (v : Int), j ≤ Y.size ∧ jv = .int .i64 (j : Int) ∧ 0 ≤ v ∧ v ≤ 9223372036854775807 ∧ Keep (v = (valD (Y.data.toList.take j) : Nat)) ∧ Hid (Ok w [kVar (w.heap.size + 1) 43 [.int .u8 1, .int .i64 v, .string ⟨#[]⟩, .int .i64 0, .int .i64 0, .int .i64 0, .int .i64 0, .int .i64 (i : Int)], kVar (w.heap.size) 43 [.int .u8 0, .int .i64 0, .string ⟨#[]⟩, .int .i64 0, .int .i64 0, .int .i64 0, .int .i64 0, .int .i64 0]] wr)) (fun jv _ => Y.size - (intOf jv).toNat)
                case atStart => exact ⟨0, 0, Nat.zero_le _, rfl, by omega, by omega, keep (by rw [List.take_zero]; rfl), H2⟩
                case round =>
                  clear H2
                  obtain ⟨j, v, hj, rfl, hv0, hv, HV, HR⟩ := hrel
                  obtain ⟨wp, rfl⟩ : ∃ wp : World, wp = wr := ⟨_, rfl⟩
                  by_cases hlt : (j : Int) < Y.size
                  · have hjl : j < Y.size := by omega
                    have hyl : Y.data.toList.length = Y.size := by rw [Array.length_toList]; rfl
                    have hdg := HYD.out (Y[j]'hjl) (by show Y.data.toList[j]'(by rw [hyl]; exact hjl) ∈ _; exact List.getElem_mem _)
                    rw [dig_int] at hdg
                    simp at hdg
                    obtain ⟨dd, hdd⟩ : ∃ dd : Nat, (Y[j]'hjl).toNat = 48 + dd := ⟨(Y[j]'hjl).toNat - 48, by omega⟩
                    have hd9 : dd ≤ 9 := by omega
                    have hstep := valD_take Y.data.toList j (by rw [hyl]; exact hjl)
                    have hst2 : ((valD (Y.data.toList.take (j + 1)) : Nat) : Int) = 10 * v + dd := by
                      rw [hstep, show (Y.data.toList[j]'(by rw [hyl]; exact hjl)).toNat = 48 + dd from hdd, HV.out]
                      omega
                    have HST := keep hst2
                    have hix : ∀ h, ((Y[j]'h).toNat : Int) = 48 + (dd : Int) := fun _ => by rw [hdd]; omega
                    clear hdg hdd hstep hst2 hyl
                    obtain ⟨qq, hqq⟩ : ∃ qq : Int, (9223372036854775807 - (48 + (dd : Int) - 48)).tdiv 10 = qq := ⟨_, rfl⟩
                    have hqe : (9223372036854775807 - (48 + (dd : Int) - 48)).tdiv 10 = (9223372036854775807 - (48 + (dd : Int) - 48)) / 10 := Int.tdiv_eq_ediv_of_nonneg (by omega)
                    have hq0 : 0 ≤ qq := by omega
                    have hq1 : qq ≤ 922337203685477580 := by omega
                    by_cases hG : 9223372036854775807 < 10 * v + dd
                    · have HOV := keep (num_over (l := restB s i) (i := i) (a := Y.data.toList) (k := j + 1) (by rw [HU.out, HDW.out]; exact HY.out.symm) (by have := HST.out; unfold mostN; omega))
                      have hgt : v > qq := by omega
                      clear hqe hG
                      have F4 := HR.out.sees
                      simp only [sees, kVar, cellsAt, Nat.reduceAdd] at F4
                      obtain ⟨⟨⟨z0, fz0⟩, c0_0, c0_1, c0_2, c0_3, c0_4, c0_5, c0_6, c0_7, -⟩, ⟨⟨z1, fz1⟩, c1_0, c1_1, c1_2, c1_3, c1_4, c1_5, c1_6, c1_7, -⟩, -⟩ := F4
                      go_wp2_with fail
                      have hK := HR.out.get (kVar (w.heap.size) 43 [.int .u8 0, .int .i64 0, .string ⟨#[]⟩, .int .i64 0, .int .i64 0, .int .i64 0, .int .i64 0, .int .i64 0]) (by simp)
                      have hB := HR.out.bel
                      have hE := (((((((((show Blk wp (w.heap.size) 43 _ from hK).set_ 0 (.int .u8 1)).set_ 1 (.int .i64 v)).set_ 2 (.string ⟨#[]⟩)).set_ 3 (.int .i64 0)).set_ 4 (.int .i64 0)).set_ 5 (.int .i64 0)).set_ 6 (.int .i64 0)).set_ 7 (.int .i64 (i : Int)))
                      have r0 := hE.cell 0
                      have r1 := hE.cell 1
                      have r2 := hE.cell 2
                      have r3 := hE.cell 3
                      have r4 := hE.cell 4
                      have r5 := hE.cell 5
                      have r6 := hE.cell 6
                      have r7 := hE.cell 7
                      simp at r0 r1 r2 r3 r4 r5 r6 r7
                      refine bodyPost_ret (v := .tuple #[.agg #[.int .u8 1, .int .i64 v, .string ⟨#[]⟩, .int .i64 0, .int .i64 0, .int .i64 0, .int .i64 0, .int .i64 (i : Int)], .int .i64 0, .bool false]) (by simp [results, Tryz.results70, go_sem, r0, r1, r2, r3, r4, r5, r6, r7]) rfl ⟨refout_none ⟨1, v, [], R4.zero, i⟩ HOV.out, ((((((((hB.setCell (by simp) _).setCell (by simp) _).setCell (by simp) _).setCell (by simp) _).setCell (by simp) _).setCell (by simp) _).setCell (by simp) _).setCell (by simp) _)⟩
                    · have HM := keep (show 0 ≤ 10 * v + (48 + (dd : Int) - 48) ∧ 10 * v + (48 + (dd : Int) - 48) ≤ 9223372036854775807 by omega)
                      have hgt : ¬ v > qq := by omega
                      have hov : 10 * v + (dd : Int) ≤ 9223372036854775807 := by omega
                      clear hqe hG
                      have F4 := HR.out.sees
                      simp only [sees, kVar, cellsAt, Nat.reduceAdd] at F4
                      obtain ⟨⟨⟨z0, fz0⟩, c0_0, c0_1, c0_2, c0_3, c0_4, c0_5, c0_6, c0_7, -⟩, ⟨⟨z1, fz1⟩, c1_0, c1_1, c1_2, c1_3, c1_4, c1_5, c1_6, c1_7, -⟩, -⟩ := F4
                      go_wp2_with fail
                      clear z0 fz0 c0_0 c0_1 c0_2 c0_3 c0_4 c0_5 c0_6 c0_7 z1 fz1 c1_0 c1_1 c1_2 c1_3 c1_4 c1_5 c1_6 c1_7
                      have hfar : ∀ x ∈ [kVar (w.heap.size) 43 [.int .u8 0, .int .i64 0, .string ⟨#[]⟩, .int .i64 0, .int .i64 0, .int .i64 0, .int .i64 0, .int .i64 0]], x.far (some (w.heap.size + 1)) := by
                        simp [kVar] <;> omega
                      have HS := Lib.hid (HR.out.set_ (i := 1) (u := .int .i64 (10 * v + (48 + (dd : Int) - 48))) (by omega) hfar)
                      go_roundw
                      case rel => exact ⟨j + 1, 10 * v + (48 + (dd : Int) - 48), by omega, by go_num, HM.out.1, HM.out.2, keep (by rw [HST.out]; omega), HS⟩
                      case measure => simp [intOf]; omega
                  · obtain rfl : j = Y.size := by omega
                    have hfull : Y.data.toList.take Y.size = Y.data.toList := by rw [show Y.size = Y.data.toList.length by rw [Array.length_toList]; rfl, List.take_length]
                    have HN := keep (show v = (numV u (placesS d) : Nat) by rw [HV.out, hfull, HY.out]; rfl)
                    have HRES := keep (show numR (restB s i) i = some (⟨1, v, [], R4.zero, i⟩, u.length + if placesS d = [] then 0 else (placesS d).length + 1) by
                      rw [num_good (by rw [HU.out]; exact HNE.out) (by rw [HDW.out]; exact HPL.out) (by rw [HU.out, HDW.out]; have := HN.out; unfold mostN; omega), HU.out, HDW.out, ← HN.out])
                    have HQ2 := keep (show q = i + (u.length + if placesS d = [] then 0 else (placesS d).length + 1) by rw [HQ.out]; have := HZ.out; omega)
                    clear hfull
                    have F4 := HR.out.sees
                    simp only [sees, kVar, cellsAt, Nat.reduceAdd] at F4
                    obtain ⟨⟨⟨z0, fz0⟩, c0_0, c0_1, c0_2, c0_3, c0_4, c0_5, c0_6, c0_7, -⟩, ⟨⟨z1, fz1⟩, c1_0, c1_1, c1_2, c1_3, c1_4, c1_5, c1_6, c1_7, -⟩, -⟩ := F4
                    go_wp2_with fail
                    have hK := HR.out.get (kVar (w.heap.size) 43 [.int .u8 0, .int .i64 0, .string ⟨#[]⟩, .int .i64 0, .int .i64 0, .int .i64 0, .int .i64 0, .int .i64 0]) (by simp)
                    have hB := HR.out.bel
                    have hE := (((((((((show Blk wp (w.heap.size) 43 _ from hK).set_ 0 (.int .u8 1)).set_ 1 (.int .i64 v)).set_ 2 (.string ⟨#[]⟩)).set_ 3 (.int .i64 0)).set_ 4 (.int .i64 0)).set_ 5 (.int .i64 0)).set_ 6 (.int .i64 0)).set_ 7 (.int .i64 (i : Int)))
                    have r0 := hE.cell 0
                    have r1 := hE.cell 1
                    have r2 := hE.cell 2
                    have r3 := hE.cell 3
                    have r4 := hE.cell 4
                    have r5 := hE.cell 5
                    have r6 := hE.cell 6
                    have r7 := hE.cell 7
                    simp at r0 r1 r2 r3 r4 r5 r6 r7
                    refine bodyPost_ret (v := .tuple #[.agg #[.int .u8 1, .int .i64 v, .string ⟨#[]⟩, .int .i64 0, .int .i64 0, .int .i64 0, .int .i64 0, .int .i64 (i : Int)], .int .i64 (q : Int), .bool true]) (by simp [results, Tryz.results70, go_sem, r0, r1, r2, r3, r4, r5, r6, r7]) rfl ⟨refout_some q HRES.out HQ2.out, ((((((((hB.setCell (by simp) _).setCell (by simp) _).setCell (by simp) _).setCell (by simp) _).setCell (by simp) _).setCell (by simp) _).setCell (by simp) _).setCell (by simp) _)⟩
    · have hkl := test_lt hD
      rw [hD] at hrn
      have HZ2 := keep (show k + 1 + (digRun s (k + 1)).length = z by have h9 := HX.out; rw [hrn] at h9; simp at h9; omega)
      have HDD := keep hD
      clear HX hrn hD
      go_wp2_with fail
      refine (ref7_digit s k _).mono ?_
      rintro e w4 ⟨rfl, hw5⟩
      obtain rfl : W3 = w4 := hw5.symm
      rw [HDD.out]
      go_wp2_with fail
      go_roundw
      case rel => exact ⟨k + 1, by omega, by omega, by go_num, HZ2, by first | trivial | rfl⟩
      case measure => simp [intOf]; omega

end Go.Proofs.YtlngjiibbcgkmaaGreatDoor
