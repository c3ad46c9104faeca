/- Contracts of dec.digits, dec.signed and of the lexer's next and plain. -/
import Derived.Test.YtlngjiibbcgkmaaDoorLexB
import Derived.Test.YtlngjiibbcgkmaaDoorLexU
import Derived.Lib.Strings
namespace Go.Proofs.YtlngjiibbcgkmaaDoor
open Go.RowKit

theorem dec_signed (n : Nat) (neg : Bool) (w : World) (hn : n ≤ 9223372036854775807) :
    Calls Tryd.prog 49 #[.int .u64 0, .int .u64 (n : Int), .bool neg] w fun e w' => e = .returned (.tuple #[.int .i64 (if neg then -(n : Int) else n), .bool true]) ∧ w' = w := by
  have hn2 : (n : Int) ≤ 9223372036854775807 := by omega
  have hn3 : 0 ≤ (n : Int) := by omega
  cases neg
  · go_enter Tryd.func49, Tryd.ntmps49
    go_wp2_with fail
    exact bodyPost_ret (v := .tuple #[.int .i64 (n : Int), .bool true]) (by simp [results, Tryd.results49, go_sem]) rfl ⟨rfl, rfl⟩
  · go_enter Tryd.func49, Tryd.ntmps49
    go_wp2_with fail
    exact bodyPost_ret (v := .tuple #[.int .i64 (-(n : Int)), .bool true]) (by simp [results, Tryd.results49, go_sem]) rfl ⟨rfl, rfl⟩
set_option maxRecDepth 100000 in
theorem dec_digits (s : ByteArray) (w : World) (hs : s.size ≤ 4611686018427387904) :
    Calls Tryd.prog 48 #[.string s] w fun e w' => e = .returned (.int .i64 ((s.data.toList.takeWhile isDig).length : Int)) ∧ w' = w := by
  go_enter Tryd.func48, Tryd.ntmps48
  go_wp2_with fail
  go_loopw [6] (fun iv wr => ∃ k : Nat, k ≤ s.size ∧ iv = .int .i64 (k : Int) ∧ Keep ((s.data.toList.takeWhile isDig).length = k + ((s.data.toList.drop k).takeWhile isDig).length) ∧ wr = w) (fun iv _ => s.size - (intOf iv).toNat)
  case atStart => exact ⟨0, Nat.zero_le _, rfl, keep (by simp), rfl⟩
  case round =>
    obtain ⟨k, hk, rfl, HX, rfl⟩ := hrel
    have hsl : s.data.toList.length = s.size := by rw [Array.length_toList]; rfl
    by_cases hlt : (k : Int) < s.size
    · have hqs : k < s.size := by omega
      have hdrop : s.data.toList.drop k = s[k]'hqs :: s.data.toList.drop (k + 1) := List.drop_eq_getElem_cons (by omega)
      have hx := HX.out
      rw [hdrop, List.takeWhile_cons] at hx
      have hd := dig_int (s[k]'hqs)
      have hb8 : (s[k]'hqs).toNat < 256 := (s[k]'hqs).toNat_lt
      cases hv : isDig (s[k]'hqs)
      · rw [hv] at hd hx
        have HE := keep hx
        have hc : ((s[k]'hqs).toNat : Int) < 48 ∨ 57 < ((s[k]'hqs).toNat : Int) := by
          simp at hd; omega
        clear hx hd hv hdrop hsl
        rcases hc with hc | hc
        · go_wp2_with fail
          go_ret
          exact ⟨by rw [HE.out]; rfl, rfl⟩
        · have hc2 : ¬ ((s[k]'hqs).toNat : Int) < 48 := by omega
          go_wp2_with fail
          go_ret
          exact ⟨by rw [HE.out]; rfl, rfl⟩
      · rw [hv] at hd hx
        have HE := keep hx
        have hc : 48 ≤ ((s[k]'hqs).toNat : Int) ∧ ((s[k]'hqs).toNat : Int) ≤ 57 := by
          simp at hd; omega
        obtain ⟨hc1, hc2⟩ := hc
        clear hx hd hv hdrop hsl
        go_wp2_with fail
        go_roundw
        case rel => exact ⟨k + 1, by omega, by go_num, keep (by rw [HE.out]; simp; omega), by first | trivial | rfl⟩
        case measure => simp [intOf]; omega
    · have hke : k = s.size := by omega
      have HE := keep (show (s.data.toList.takeWhile isDig).length = s.size by rw [HX.out, List.drop_of_length_le (by omega), hke]; rfl)
      clear hsl
      go_wp2_with fail
      go_ret
      exact ⟨by rw [HE.out]; rfl, rfl⟩
/-- the byte at a place, or 0 behind the end -/
def byteS (s : ByteArray) (i : Nat) : UInt8 := s.data.toList[i]?.getD 0
theorem reader_next (s : ByteArray) (rb i : Nat) (w : World) (_hs : s.size ≤ 4611686018427387904) (_hi : i ≤ 4611686018427387904) (hr : w.cell? ⟨rb, 0, none⟩ = some (.string s)) :
    Calls Tryd.prog 33 #[.pointer (some ⟨rb, 0, none⟩), .int .i64 (i : Int)] w fun e w' => e = .returned (.int .u8 (byteS s i).toNat) ∧ w' = w := by
  have hsl : s.data.toList.length = s.size := by rw [Array.length_toList]; rfl
  by_cases hlt : (i : Int) < s.size
  · have hqs : i < s.size := by omega
    have hb : byteS s i = s[i]'hqs := by
      unfold byteS
      rw [List.getElem?_eq_getElem (by omega)]
      rfl
    have HB := keep hb
    clear hb hsl
    go_enter Tryd.func33, Tryd.ntmps33
    go_wp2_with fail
    go_ret
    exact ⟨by rw [HB.out]; rfl, rfl⟩
  · have hb : byteS s i = 0 := by
      unfold byteS
      rw [List.getElem?_eq_none (by omega)]
      rfl
    have HB := keep hb
    clear hb hsl
    go_enter Tryd.func33, Tryd.ntmps33
    go_wp2_with fail
    go_ret
    exact ⟨by rw [HB.out]; rfl, rfl⟩
theorem run_take (p : UInt8 → Bool) (l : List UInt8) : l.take (l.takeWhile p).length = l.takeWhile p := by
  have h := List.takeWhile_append_dropWhile (p := p) (l := l)
  conv => lhs; arg 2; rw [← h]
  rw [List.take_left]
set_option maxRecDepth 100000 in
theorem reader_plain (s : ByteArray) (rb i : Nat) (w : World) (hs : s.size ≤ 4611686018427387904) (hi : i ≤ s.size) (hr : w.cell? ⟨rb, 0, none⟩ = some (.string s)) :
    Calls Tryd.prog 32 #[.pointer (some ⟨rb, 0, none⟩), .int .i64 (i : Int)] w fun e w' => e = .returned (.string ⟨((wrdRun s i).map upB).toArray⟩) ∧ Below w.heap.size w w' := by
  have hsl : s.data.toList.length = s.size := by rw [Array.length_toList]; rfl
  obtain ⟨n, hn⟩ : ∃ n, (wrdRun s i).length = n := ⟨_, rfl⟩
  have hle : i + n ≤ s.size := by
    have h := (List.takeWhile_prefix (l := s.data.toList.drop i) isWrd).length_le
    rw [List.length_drop] at h
    have h2 : (wrdRun s i).length = ((s.data.toList.drop i).takeWhile isWrd).length := rfl
    omega
  have hx : (s.extract i (i + n)).data.toList = wrdRun s i := by
    rw [Lib.extract_data, Nat.add_sub_cancel_left, ← hn]
    exact run_take _ _
  have HX := keep hx
  have HN := keep hn
  have ht : ((i : Int) + (n : Int)).toNat = i + n := by omega
  have h1 : (i : Int) + n ≤ s.size := by omega
  have h2 : (i : Int) ≤ (i : Int) + n := by omega
  have hes : (s.extract i (i + n)).size ≤ 4611686018427387904 := by simp; omega
  clear hsl hx hn
  go_enter Tryd.func32, Tryd.ntmps32
  go_wp2_with fail
  refine (length_wrd s i _ hi hs).mono ?_
  rintro e w1 ⟨rfl, hb⟩
  have hr1 := cell_step hb hr
  have HB := Lib.hid hb
  clear hb hr
  rw [HN.out]
  go_wp2_with fail
  refine (glyph_Upper _ _ hes).mono ?_
  rintro e w2 ⟨rfl, hb2⟩
  have HB2 := Lib.hid (below_step HB.out hb2)
  clear hb2 hr1
  rw [HX.out]
  go_wp2_with fail
  go_ret
  exact ⟨rfl, HB2.out⟩
end Go.Proofs.YtlngjiibbcgkmaaDoor
