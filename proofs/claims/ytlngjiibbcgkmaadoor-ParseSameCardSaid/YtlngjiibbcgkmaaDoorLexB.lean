/- The iterator piece of the lexer, and length: how many bytes from a place on pass a test. -/
import Derived.Test.YtlngjiibbcgkmaaDoorLexA
import Derived.Test.YtlngjiibbcgkmaaDoorIterV
import Derived.IntWalk
namespace Go.Proofs.YtlngjiibbcgkmaaDoor
open Go.RowKit

attribute [local go_sem] Oper.semAt_some
def bytesV (l : List UInt8) : List Value := l.map fun b => .int .u8 b.toNat
theorem bytesV_app (k l : List UInt8) : bytesV (k ++ l) = bytesV k ++ bytesV l := by simp [bytesV]
theorem lex_piece (s : ByteArray) (i : Int) (g : Nat) (w : World) :
    Calls Tryd.prog 47 #[.string s, .int .i64 i, .func (.func g) #[] #[]] w fun e w' => e = .returned (.func (.func 63) #[] #[.pointer (some ⟨w.heap.size + 1, 0, none⟩), .pointer (some ⟨w.heap.size, 0, none⟩), .pointer (some ⟨w.heap.size + 2, 0, none⟩)]) ∧
      w' = ((w.alloc (.cells #[.string s] 9)).alloc (.cells #[.int .i64 i] 3)).alloc (.cells #[.func (.func g) #[] #[]] 65) := by
  go_enter Tryd.func47, Tryd.ntmps47
  go_wp2
  go_ret
  exact ⟨rfl, rfl⟩
/-- the bytes from a place on that pass the test -/
def digRun (s : ByteArray) (i : Nat) : List UInt8 := (s.data.toList.drop i).takeWhile isDig
set_option maxRecDepth 100000 in
set_option maxHeartbeats 4000000 in
theorem piece_dig (m : Nat) (hm : 2 ≤ m) (s : ByteArray) (i : Nat) (hi : i ≤ s.size) (hs : s.size ≤ 4611686018427387904) (o : Nat) (w : World) (h1 : Boxed w o 9 (.string s)) (h2 : Boxed w (o + 1) 3 (.int .i64 (i : Int))) (h3 : Boxed w (o + 2) 65 (.func (.func 28) #[] #[])) :
    HandsV Fence.wide m Tryd.prog 63 #[.pointer (some ⟨o + 1, 0, none⟩), .pointer (some ⟨o, 0, none⟩), .pointer (some ⟨o + 2, 0, none⟩)] [o, o + 1, o + 2] (fun _ => True) (bytesV (digRun s i)) w := by
  intro l J W _ hdrew hY ho h0
  have hB1 : Boxed W o 9 (.string s) := (ho o (by simp)).trans h1
  have hB2 : Boxed W (o + 1) 3 (.int .i64 (i : Int)) := (ho (o + 1) (by simp)).trans h2
  have hB3 : Boxed W (o + 2) 65 (.func (.func 28) #[] #[]) := (ho (o + 2) (by simp)).trans h3
  have HD := Lib.hid hdrew
  have HY := Lib.hid hY
  have h1' : 1 ≤ m - 1 := by omega
  have hc := hB2.cell
  refine callsIn_of_wp Tryd.func63 rfl trivial ?_ rfl
  simp only [Tryd.ntmps63, List.size_toArray, List.length_cons, List.length_nil, Nat.reduceAdd, Nat.reduceSub, Array.replicate_succ, Array.replicate_zero, List.push_toArray, List.append_toArray, List.nil_append, List.cons_append]
  have HB1 := Lib.hid hB1
  have HB2 := Lib.hid hB2
  have HB3 := Lib.hid hB3
  clear hdrew hY ho h1 h2 h3 hB1 hB2 hB3
  gi_wp2
  clear hc
  gi_loopw [5] (fun iv wr => ∃ (pre : List Value) (k : Nat), i + k ≤ s.size ∧ iv = .int .i64 ((i + k : Nat) : Int) ∧ Keep (bytesV (digRun s i) = pre ++ bytesV (digRun s (i + k))) ∧ Hid (Boxed wr o 9 (.string s)) ∧ Hid (Boxed wr (o + 1) 3 (.int .i64 (i : Int))) ∧ Hid (Boxed wr (o + 2) 65 (.func (.func 28) #[] #[])) ∧ Hid (J pre wr)) (fun iv _ => s.size - (intOf iv).toNat)
  case atStart => exact ⟨[], 0, hi, rfl, keep rfl, HB1, HB2, HB3, h0⟩
  case round =>
    clear HB1 HB2 HB3
    obtain ⟨pre, k, hk, rfl, HX, HB1, HB2, HB3, HJ⟩ := hrel
    obtain ⟨q, hq⟩ : ∃ q, i + k = q := ⟨_, rfl⟩
    rw [hq] at hk HX ⊢
    by_cases hlt : (q : Int) < s.size
    · have hsl : s.data.toList.length = s.size := by rw [Array.length_toList]; rfl
      have hqs : q < s.size := by omega
      have hdrop : s.data.toList.drop q = s[q]'hqs :: s.data.toList.drop (q + 1) := List.drop_eq_getElem_cons (by omega)
      have hrun : digRun s q = if isDig (s[q]'hqs) = true then s[q]'hqs :: digRun s (q + 1) else [] := by
        unfold digRun
        rw [hdrop, List.takeWhile_cons]
      have HR := keep hrun
      clear hsl hdrop hrun
      gi_wp2_with fail
      refine wpIn_wide.2 ?_
      refine wp_region_held_drew (S := fun W => (Boxed W o 9 (.string s) ∧ Boxed W (o + 1) 3 (.int .i64 (i : Int)) ∧ Boxed W (o + 2) 65 (.func (.func 28) #[] #[])) ∧ J pre W) (by kernel_rfl) ⟨⟨HB1.out, HB2.out, HB3.out⟩, HD.out _ _ HJ.out⟩ (fun hHeld => ?_)
      refine wpAnyH_take (i := 0) (v := ?vt0_1) rfl (by kernel_rfl) (by kernel_rfl) (by kernel_rfl) (fun _ _ _ h => h) (Or.inl ⟨by rfl, ?hyt0_1⟩) (by assumption) ?restt0_1
      case hyt0_1 => (intro w hSw; have s1 := hSw.1.1.cell; have s2 := hSw.1.2.1.cell; have s3 := hSw.1.2.2.cell; go_simp; try with_reducible rfl)
      try simp only [Act.put, List.setIfInBounds_toArray, List.set_cons_zero, List.set_cons_succ, List.getElem_toArray, List.getElem_cons_zero]
      refine wpAnyH_take (i := 1) (v := ?vt1_2) rfl (by kernel_rfl) (by kernel_rfl) (by kernel_rfl) (fun _ _ _ h => h) (Or.inl ⟨by rfl, ?hyt1_2⟩) (by assumption) ?restt1_2
      case hyt1_2 => (intro w hSw; have s1 := hSw.1.1.cell; have s2 := hSw.1.2.1.cell; have s3 := hSw.1.2.2.cell; go_simp; try with_reducible rfl)
      try simp only [Act.put, List.setIfInBounds_toArray, List.set_cons_zero, List.set_cons_succ, List.getElem_toArray, List.getElem_cons_succ, List.getElem_cons_zero]
      refine wpAnyH_take (i := 2) (v := ?vt2_3) rfl (by kernel_rfl) (by kernel_rfl) (by kernel_rfl) (fun _ _ _ h => h) (Or.inl ⟨by rfl, ?hyt2_3⟩) (by assumption) ?restt2_3
      case hyt2_3 => (intro w hSw; have s1 := hSw.1.1.cell; have s2 := hSw.1.2.1.cell; have s3 := hSw.1.2.2.cell; go_simp; try with_reducible rfl)
      try simp only [Act.put, List.setIfInBounds_toArray, List.set_cons_zero, List.set_cons_succ, List.getElem_toArray, List.getElem_cons_succ, List.getElem_cons_zero]
      refine wpAnyH_take (i := 3) (v := ?vt3_4) rfl (by kernel_rfl) (by kernel_rfl) (by kernel_rfl) (fun _ _ _ h => h) (Or.inl ⟨by rfl, ?hyt3_4⟩) (by assumption) ?restt3_4
      case hyt3_4 => (intro w hSw; have s1 := hSw.1.1.cell; have s2 := hSw.1.2.1.cell; have s3 := hSw.1.2.2.cell; go_simp; try with_reducible rfl)
      try simp only [Act.put, List.setIfInBounds_toArray, List.set_cons_zero, List.set_cons_succ, List.getElem_toArray, List.getElem_cons_succ, List.getElem_cons_zero]
      refine wpAnyH_take (i := 4) (v := ?vt4_5) rfl (by kernel_rfl) (by kernel_rfl) (by kernel_rfl) (fun _ _ _ h => h) (Or.inl ⟨by rfl, ?hyt4_5⟩) (by assumption) ?restt4_5
      case hyt4_5 => (intro w hSw; have s1 := hSw.1.1.cell; have s2 := hSw.1.2.1.cell; have s3 := hSw.1.2.2.cell; go_simp; try with_reducible rfl)
      try simp only [Act.put, List.setIfInBounds_toArray, List.set_cons_zero, List.set_cons_succ, List.getElem_toArray, List.getElem_cons_succ, List.getElem_cons_zero]
      refine wpAnyH_take (i := 5) (v := ?vt5_6) rfl (by kernel_rfl) (by kernel_rfl) (by kernel_rfl) (fun _ _ _ h => h) (Or.inl ⟨by rfl, ?hyt5_6⟩) (by assumption) ?restt5_6
      case hyt5_6 => (intro w hSw; have s1 := hSw.1.1.cell; have s2 := hSw.1.2.1.cell; have s3 := hSw.1.2.2.cell; go_simp; try with_reducible rfl)
      try simp only [Act.put, List.setIfInBounds_toArray, List.set_cons_zero, List.set_cons_succ, List.getElem_toArray, List.getElem_cons_succ, List.getElem_cons_zero]
      refine wpAnyH_take (i := 6) (v := ?vt6_7) rfl (by kernel_rfl) (by kernel_rfl) (by kernel_rfl) (fun _ _ _ h => h) (Or.inl ⟨by rfl, ?hyt6_7⟩) (by assumption) ?restt6_7
      case hyt6_7 => (intro w hSw; have s1 := hSw.1.1.cell; have s2 := hSw.1.2.1.cell; have s3 := hSw.1.2.2.cell; go_simp; try with_reducible rfl)
      try simp only [Act.put, List.setIfInBounds_toArray, List.set_cons_zero, List.set_cons_succ, List.getElem_toArray, List.getElem_cons_succ, List.getElem_cons_zero]
      refine wpAnyH_take (i := 7) (v := ?vt7_8) rfl (by kernel_rfl) (by kernel_rfl) (by kernel_rfl) (fun _ _ _ h => h) (Or.inl ⟨by rfl, ?hyt7_8⟩) (by assumption) ?restt7_8
      case hyt7_8 => (intro w hSw; have s1 := hSw.1.1.cell; have s2 := hSw.1.2.1.cell; have s3 := hSw.1.2.2.cell; go_simp; try with_reducible rfl)
      try simp only [Act.put, List.setIfInBounds_toArray, List.set_cons_zero, List.set_cons_succ, List.getElem_toArray, List.getElem_cons_succ, List.getElem_cons_zero]
      refine wpAnyH_take (i := 8) (v := ?vt8_9) rfl (by kernel_rfl) (by kernel_rfl) (by kernel_rfl) (fun _ _ _ h => h) (Or.inl ⟨by rfl, ?hyt8_9⟩) (by assumption) ?restt8_9
      case hyt8_9 => (intro w hSw; have s1 := hSw.1.1.cell; have s2 := hSw.1.2.1.cell; have s3 := hSw.1.2.2.cell; go_simp; try with_reducible rfl)
      try simp only [Act.put, List.setIfInBounds_toArray, List.set_cons_zero, List.set_cons_succ, List.getElem_toArray, List.getElem_cons_succ, List.getElem_cons_zero]
      refine wpAnyH_ready (rs := [9]) (by kernel_rfl) (by simp) ?_
      refine AllReadyH.cons rfl (fun K hK => ?_) AllReadyH.nil
      go_simp
      refine (lex_digit _ _).mono ?_
      rintro e w6 ⟨rfl, rfl⟩
      go_wp2_with fail
      refine hK.out _ _ hHeld (fun hHeld => ?_)
      clear hK K
      try simp only [Act.put, List.setIfInBounds_toArray, List.set_cons_zero, List.set_cons_succ, List.getElem_toArray, List.getElem_cons_succ, List.getElem_cons_zero]
      refine wpAnyH_take (i := 10) (v := ?vt10_11) rfl (by kernel_rfl) (by kernel_rfl) (by kernel_rfl) (fun _ _ _ h => h) (Or.inl ⟨by rfl, ?hyt10_11⟩) (by assumption) ?restt10_11
      case hyt10_11 => (intro w hSw; have s1 := hSw.1.1.cell; have s2 := hSw.1.2.1.cell; have s3 := hSw.1.2.2.cell; go_simp; try with_reducible rfl)
      try simp only [Act.put, List.setIfInBounds_toArray, List.set_cons_zero, List.set_cons_succ, List.getElem_toArray, List.getElem_cons_succ, List.getElem_cons_zero]
      refine wpAnyH_done (by kernel_rfl) ?_ _
      clear hHeld
      generalize hv : isDig (s[q]'hqs) = v
      have HV := keep hv
      clear hv
      cases v
      · gi_wp2_with fail
        go_end0
        refine ⟨⟨_, rfl⟩, ?_⟩
        have hx := HX.out
        rw [HR.out, HV.out, if_neg (by decide), show bytesV [] = [] from rfl, List.append_nil] at hx
        rw [hx]
        exact HD.out _ _ HJ.out
      · have hx := HX.out
        rw [HR.out, HV.out, if_pos rfl, show bytesV (s[q]'hqs :: digRun s (q + 1)) = [.int .u8 (s[q]'hqs).toNat] ++ bytesV (digRun s (q + 1)) from rfl, ← List.append_assoc] at hx
        obtain ⟨fn, tmps, assign, body, hy, hR⟩ := HY.out pre (.int .u8 (s[q]'hqs).toNat) wr.drew (HD.out _ _ HJ.out) ⟨_, hx.symm⟩
        have HX2 := keep hx
        clear hx
        have e1 : wr.drew.cell? ⟨o, 0, none⟩ = some (.string s) := HB1.out.cell
        gi_wp2_with fail
        refine ⟨fun _ => by omega, hR.mono ?_⟩
        rintro e W3 ⟨rfl, hJ3, ho3⟩
        clear hR hy e1
        gi_wp2_with fail
        go_roundw
        case rel => exact ⟨pre ++ [.int .u8 (s[q]'hqs).toNat], k + 1, by omega, by rw [← hq]; go_num, keep (by rw [show i + (k + 1) = q + 1 from by omega]; exact HX2.out), Lib.hid ((ho3 o (by simp)).trans HB1.out), Lib.hid ((ho3 (o + 1) (by simp)).trans HB2.out), Lib.hid ((ho3 (o + 2) (by simp)).trans HB3.out), Lib.hid hJ3⟩
        case measure => simp [intOf]; omega
    · obtain rfl : q = s.size := by omega
      gi_wp2_with fail
      refine wpIn_wide.2 ?_
      refine wp_region_held_drew (S := fun W => (Boxed W o 9 (.string s) ∧ Boxed W (o + 1) 3 (.int .i64 (i : Int)) ∧ Boxed W (o + 2) 65 (.func (.func 28) #[] #[])) ∧ J pre W) (by kernel_rfl) ⟨⟨HB1.out, HB2.out, HB3.out⟩, HD.out _ _ HJ.out⟩ (fun hHeld => ?_)
      refine wpAnyH_take (i := 0) (v := ?vt0_12) rfl (by kernel_rfl) (by kernel_rfl) (by kernel_rfl) (fun _ _ _ h => h) (Or.inl ⟨by rfl, ?hyt0_12⟩) (by assumption) ?restt0_12
      case hyt0_12 => (intro w hSw; have s1 := hSw.1.1.cell; have s2 := hSw.1.2.1.cell; have s3 := hSw.1.2.2.cell; go_simp; try with_reducible rfl)
      try simp only [Act.put, List.setIfInBounds_toArray, List.set_cons_zero, List.set_cons_succ, List.getElem_toArray, List.getElem_cons_zero]
      refine wpAnyH_take (i := 1) (v := ?vt1_13) rfl (by kernel_rfl) (by kernel_rfl) (by kernel_rfl) (fun _ _ _ h => h) (Or.inl ⟨by rfl, ?hyt1_13⟩) (by assumption) ?restt1_13
      case hyt1_13 => (intro w hSw; have s1 := hSw.1.1.cell; have s2 := hSw.1.2.1.cell; have s3 := hSw.1.2.2.cell; go_simp; try with_reducible rfl)
      try simp only [Act.put, List.setIfInBounds_toArray, List.set_cons_zero, List.set_cons_succ, List.getElem_toArray, List.getElem_cons_succ, List.getElem_cons_zero]
      refine wpAnyH_take (i := 2) (v := ?vt2_14) rfl (by kernel_rfl) (by kernel_rfl) (by kernel_rfl) (fun _ _ _ h => h) (Or.inl ⟨by rfl, ?hyt2_14⟩) (by assumption) ?restt2_14
      case hyt2_14 => (intro w hSw; have s1 := hSw.1.1.cell; have s2 := hSw.1.2.1.cell; have s3 := hSw.1.2.2.cell; go_simp; try with_reducible rfl)
      try simp only [Act.put, List.setIfInBounds_toArray, List.set_cons_zero, List.set_cons_succ, List.getElem_toArray, List.getElem_cons_succ, List.getElem_cons_zero]
      refine wpAnyH_take (i := 3) (v := ?vt3_15) rfl (by kernel_rfl) (by kernel_rfl) (by kernel_rfl) (fun _ _ _ h => h) (Or.inl ⟨by rfl, ?hyt3_15⟩) (by assumption) ?restt3_15
      case hyt3_15 => (intro w hSw; have s1 := hSw.1.1.cell; have s2 := hSw.1.2.1.cell; have s3 := hSw.1.2.2.cell; go_simp; try with_reducible rfl)
      try simp only [Act.put, List.setIfInBounds_toArray, List.set_cons_zero, List.set_cons_succ, List.getElem_toArray, List.getElem_cons_succ, List.getElem_cons_zero]
      refine wpAnyH_take (i := 4) (v := ?vt4_16) rfl (by kernel_rfl) (by kernel_rfl) (by kernel_rfl) (fun _ _ _ h => h) (Or.inl ⟨by rfl, ?hyt4_16⟩) (by assumption) ?restt4_16
      case hyt4_16 => (intro w hSw; have s1 := hSw.1.1.cell; have s2 := hSw.1.2.1.cell; have s3 := hSw.1.2.2.cell; go_simp; try with_reducible rfl)
      try simp only [Act.put, List.setIfInBounds_toArray, List.set_cons_zero, List.set_cons_succ, List.getElem_toArray, List.getElem_cons_succ, List.getElem_cons_zero]
      refine wpAnyH_take (i := 5) (v := undef) rfl (by kernel_rfl) (by kernel_rfl) (by kernel_rfl) (fun _ _ _ h => h) (Or.inr ⟨by rfl, rfl⟩) (by assumption) ?_
      try simp only [Act.put, List.setIfInBounds_toArray, List.set_cons_zero, List.set_cons_succ, List.getElem_toArray, List.getElem_cons_succ, List.getElem_cons_zero]
      refine wpAnyH_take (i := 6) (v := undef) rfl (by kernel_rfl) (by kernel_rfl) (by kernel_rfl) (fun _ _ _ h => h) (Or.inr ⟨by rfl, rfl⟩) (by assumption) ?_
      try simp only [Act.put, List.setIfInBounds_toArray, List.set_cons_zero, List.set_cons_succ, List.getElem_toArray, List.getElem_cons_succ, List.getElem_cons_zero]
      refine wpAnyH_take (i := 7) (v := undef) rfl (by kernel_rfl) (by kernel_rfl) (by kernel_rfl) (fun _ _ _ h => h) (Or.inr ⟨by rfl, rfl⟩) (by assumption) ?_
      try simp only [Act.put, List.setIfInBounds_toArray, List.set_cons_zero, List.set_cons_succ, List.getElem_toArray, List.getElem_cons_succ, List.getElem_cons_zero]
      refine wpAnyH_take (i := 8) (v := undef) rfl (by kernel_rfl) (by kernel_rfl) (by kernel_rfl) (fun _ _ _ h => h) (Or.inr ⟨by rfl, rfl⟩) (by assumption) ?_
      try simp only [Act.put, List.setIfInBounds_toArray, List.set_cons_zero, List.set_cons_succ, List.getElem_toArray, List.getElem_cons_succ, List.getElem_cons_zero]
      refine wpAnyH_take (i := 9) (v := undef) rfl (by kernel_rfl) (by kernel_rfl) (by kernel_rfl) (fun _ _ _ h => h) (Or.inr ⟨by rfl, rfl⟩) (by assumption) ?_
      try simp only [Act.put, List.setIfInBounds_toArray, List.set_cons_zero, List.set_cons_succ, List.getElem_toArray, List.getElem_cons_succ, List.getElem_cons_zero]
      refine wpAnyH_take (i := 10) (v := ?vt10_22) rfl (by kernel_rfl) (by kernel_rfl) (by kernel_rfl) (fun _ _ _ h => h) (Or.inl ⟨by rfl, ?hyt10_22⟩) (by assumption) ?restt10_22
      case hyt10_22 => (intro w hSw; have s1 := hSw.1.1.cell; have s2 := hSw.1.2.1.cell; have s3 := hSw.1.2.2.cell; go_simp; try with_reducible rfl)
      try simp only [Act.put, List.setIfInBounds_toArray, List.set_cons_zero, List.set_cons_succ, List.getElem_toArray, List.getElem_cons_succ, List.getElem_cons_zero]
      refine wpAnyH_done (by kernel_rfl) ?_ _
      clear hHeld
      gi_wp2_with fail
      go_end0
      refine ⟨⟨_, rfl⟩, ?_⟩
      have hx := HX.out
      rw [show digRun s s.size = [] from by unfold digRun; rw [List.drop_of_length_le (by rw [Array.length_toList]; exact Nat.le_refl _)]; rfl, show bytesV [] = [] from rfl, List.append_nil] at hx
      rw [hx]
      exact HD.out _ _ HJ.out
/-- between two rounds: the count -/
def Counts (w : World) (pre : List Value) (W : World) : Prop := Boxed W w.heap.size 3 (.int .i64 (pre.length : Int)) ∧ Below w.heap.size w W
set_option maxRecDepth 100000 in
set_option maxHeartbeats 4000000 in
theorem length_dig (s : ByteArray) (i : Nat) (w : World) (hi : i ≤ s.size) (hs : s.size ≤ 4611686018427387904) :
    Calls Tryd.prog 27 #[.string s, .int .i64 (i : Int), .func (.func 28) #[] #[]] w fun e w' => e = .returned (.int .i64 ((digRun s i).length : Int)) ∧ Below w.heap.size w w' := by
  refine (callsIn_wide (n := 4)).1 ?_
  refine callsIn_of_wp_marks Tryd.func27 rfl trivial ?_ rfl
  simp only [Tryd.ntmps27, List.size_toArray, List.length_cons, List.length_nil, Nat.reduceAdd, Nat.reduceSub, Array.replicate_succ, Array.replicate_zero, List.push_toArray, List.append_toArray, List.nil_append, List.cons_append]
  gi_wp2_with fail
  refine ⟨trivial, ((callsIn_wide (n := 3)).2 (lex_piece s (i : Int) 28 _)).mono ?_⟩
  rintro e w' ⟨rfl, rfl⟩
  gi_wp2
  have b0 := Boxed.new w 3 (.int .i64 0)
  have b1 := Boxed.new (w.alloc (.cells #[.int .i64 0] 3)) 9 (.string s)
  have b2 := Boxed.new ((w.alloc (.cells #[.int .i64 0] 3)).alloc (.cells #[.string s] 9)) 3 (.int .i64 (i : Int))
  have b3 := Boxed.new (((w.alloc (.cells #[.int .i64 0] 3)).alloc (.cells #[.string s] 9)).alloc (.cells #[.int .i64 (i : Int)] 3)) 65 (.func (.func 28) #[] #[])
  simp only [World.size_alloc] at b1 b2 b3
  have hB0 : Below w.heap.size w ((((w.alloc (.cells #[.int .i64 0] 3)).alloc (.cells #[.string s] 9)).alloc (.cells #[.int .i64 (i : Int)] 3)).alloc (.cells #[.func (.func 28) #[] #[]] 65)) := ((((Below.refl _ w).alloc (Nat.le_refl _) _).alloc (by simp) _).alloc (by simp; omega) _).alloc (by simp; omega) _
  have hrl : (digRun s i).length ≤ s.size := by
    unfold digRun
    refine Nat.le_trans (List.takeWhile_prefix _).length_le ?_
    rw [List.length_drop, Array.length_toList]
    exact Nat.sub_le _ _
  have HRL := keep hrl
  clear hrl
  refine range_handsV rfl (by decide) (gf := 63) (lb := #[.pointer (some ⟨w.heap.size + 1 + 1, 0, none⟩), .pointer (some ⟨w.heap.size + 1, 0, none⟩), .pointer (some ⟨w.heap.size + 1 + 2, 0, none⟩)]) rfl trivial (enters_of Tryd.func63 (by kernel_rfl) rfl)
    (bytesV (digRun s i)) rfl [w.heap.size + 1, w.heap.size + 1 + 1, w.heap.size + 1 + 2] (by simp) (piece_dig 3 (by decide) s i hi hs (w.heap.size + 1) _ ((b1.alloc _).alloc _) (b2.alloc _) b3)
    (Counts w) ?put (fun _ _ ob h => ⟨h.1.alloc ob, h.2.alloc h.2.size ob⟩) (fun _ _ h => ⟨h.1, h.2.drew⟩) (fun _ _ _ => trivial)
    ⟨((b0.alloc _).alloc _).alloc _, hB0⟩
    (fun x => { tmps := #[.string s, .int .i64 (i : Int), .func (.func 28) #[] #[], undef, undef, undef, .int .i64 0, .pointer (some ⟨w.heap.size, 0, none⟩), .string s, .int .i64 (i : Int), .func (.func 28) #[] #[], .func (.func 63) #[] #[.pointer (some ⟨w.heap.size + 1 + 1, 0, none⟩), .pointer (some ⟨w.heap.size + 1, 0, none⟩), .pointer (some ⟨w.heap.size + 1 + 2, 0, none⟩)], x, undef, undef, undef], defers := [] }) ?assign ?body ?done
  case put =>
    intro pre W l ob ob' h hl hlo hc
    simp at hl
    exact ⟨(World.putObj_heap_other (by omega)).trans h.1, h.2.os, h.2.tape, h.2.output, by simpa using h.2.size, fun j hj => (World.putObj_heap_other (by omega)).trans (h.2.block j hj)⟩
  case assign =>
    intro l x W K hK
    gi_wp2
    simpa using hK
  case body =>
    rintro l pre x W hl ⟨hv, hB⟩ ho hpx
    have hc := hv.cell
    have hf := hv.frozen
    have hpl : pre.length < 4611686018427387904 := by
      have := hpx.length_le
      have h2 := HRL.out
      simp [bytesV] at this
      omega
    clear b0 b1 b2 b3
    gi_wp2_with fail
    refine ⟨KeepsFrom.of_grownBy (grownBy_setCell' W w.heap.size _) (fun j hj => by obtain rfl := Option.some.inj hj; simp; omega), ⟨?_, hB.setCell (by simp) _⟩, fun o ho' => Below.heap_setCell W ⟨w.heap.size, 0, none⟩ _ _ (by simp at ho'; rcases ho' with rfl | rfl | rfl <;> simp <;> omega)⟩
    rw [List.length_append]
    exact hv.set _
  case done =>
    rintro D W hD ⟨hv, hB⟩ hK
    have hc := hv.cell
    gi_wp2
    refine ⟨by simp, .inl ⟨_, _, rfl, run_takeDeferred hK, ?_⟩⟩
    refine ⟨_, results_tmp rfl _ _ _, ?_, hB.trans (belowK_b (w := w) (Nat.le_refl _) W D _ _ (by simp at hD; omega) hK rfl rfl)⟩
    simp [bytesV]
/-- the bytes from a place on that pass the test -/
def wrdRun (s : ByteArray) (i : Nat) : List UInt8 := (s.data.toList.drop i).takeWhile isWrd
set_option maxRecDepth 100000 in
set_option maxHeartbeats 4000000 in
theorem piece_wrd (m : Nat) (hm : 2 ≤ m) (s : ByteArray) (i : Nat) (hi : i ≤ s.size) (hs : s.size ≤ 4611686018427387904) (o : Nat) (w : World) (h1 : Boxed w o 9 (.string s)) (h2 : Boxed w (o + 1) 3 (.int .i64 (i : Int))) (h3 : Boxed w (o + 2) 65 (.func (.func 51) #[] #[])) :
    HandsV Fence.wide m Tryd.prog 63 #[.pointer (some ⟨o + 1, 0, none⟩), .pointer (some ⟨o, 0, none⟩), .pointer (some ⟨o + 2, 0, none⟩)] [o, o + 1, o + 2] (fun _ => True) (bytesV (wrdRun s i)) w := by
  intro l J W _ hdrew hY ho h0
  have hB1 : Boxed W o 9 (.string s) := (ho o (by simp)).trans h1
  have hB2 : Boxed W (o + 1) 3 (.int .i64 (i : Int)) := (ho (o + 1) (by simp)).trans h2
  have hB3 : Boxed W (o + 2) 65 (.func (.func 51) #[] #[]) := (ho (o + 2) (by simp)).trans h3
  have HD := Lib.hid hdrew
  have HY := Lib.hid hY
  have h1' : 1 ≤ m - 1 := by omega
  have hc := hB2.cell
  refine callsIn_of_wp Tryd.func63 rfl trivial ?_ rfl
  simp only [Tryd.ntmps63, List.size_toArray, List.length_cons, List.length_nil, Nat.reduceAdd, Nat.reduceSub, Array.replicate_succ, Array.replicate_zero, List.push_toArray, List.append_toArray, List.nil_append, List.cons_append]
  have HB1 := Lib.hid hB1
  have HB2 := Lib.hid hB2
  have HB3 := Lib.hid hB3
  clear hdrew hY ho h1 h2 h3 hB1 hB2 hB3
  gi_wp2
  clear hc
  gi_loopw [5] (fun iv wr => ∃ (pre : List Value) (k : Nat), i + k ≤ s.size ∧ iv = .int .i64 ((i + k : Nat) : Int) ∧ Keep (bytesV (wrdRun s i) = pre ++ bytesV (wrdRun s (i + k))) ∧ Hid (Boxed wr o 9 (.string s)) ∧ Hid (Boxed wr (o + 1) 3 (.int .i64 (i : Int))) ∧ Hid (Boxed wr (o + 2) 65 (.func (.func 51) #[] #[])) ∧ Hid (J pre wr)) (fun iv _ => s.size - (intOf iv).toNat)
  case atStart => exact ⟨[], 0, hi, rfl, keep rfl, HB1, HB2, HB3, h0⟩
  case round =>
    clear HB1 HB2 HB3
    obtain ⟨pre, k, hk, rfl, HX, HB1, HB2, HB3, HJ⟩ := hrel
    obtain ⟨q, hq⟩ : ∃ q, i + k = q := ⟨_, rfl⟩
    rw [hq] at hk HX ⊢
    by_cases hlt : (q : Int) < s.size
    · have hsl : s.data.toList.length = s.size := by rw [Array.length_toList]; rfl
      have hqs : q < s.size := by omega
      have hdrop : s.data.toList.drop q = s[q]'hqs :: s.data.toList.drop (q + 1) := List.drop_eq_getElem_cons (by omega)
      have hrun : wrdRun s q = if isWrd (s[q]'hqs) = true then s[q]'hqs :: wrdRun s (q + 1) else [] := by
        unfold wrdRun
        rw [hdrop, List.takeWhile_cons]
      have HR := keep hrun
      clear hsl hdrop hrun
      gi_wp2_with fail
      refine wpIn_wide.2 ?_
      refine wp_region_held_drew (S := fun W => (Boxed W o 9 (.string s) ∧ Boxed W (o + 1) 3 (.int .i64 (i : Int)) ∧ Boxed W (o + 2) 65 (.func (.func 51) #[] #[])) ∧ J pre W) (by kernel_rfl) ⟨⟨HB1.out, HB2.out, HB3.out⟩, HD.out _ _ HJ.out⟩ (fun hHeld => ?_)
      refine wpAnyH_take (i := 0) (v := ?vt0_23) rfl (by kernel_rfl) (by kernel_rfl) (by kernel_rfl) (fun _ _ _ h => h) (Or.inl ⟨by rfl, ?hyt0_23⟩) (by assumption) ?restt0_23
      case hyt0_23 => (intro w hSw; have s1 := hSw.1.1.cell; have s2 := hSw.1.2.1.cell; have s3 := hSw.1.2.2.cell; go_simp; try with_reducible rfl)
      try simp only [Act.put, List.setIfInBounds_toArray, List.set_cons_zero, List.set_cons_succ, List.getElem_toArray, List.getElem_cons_zero]
      refine wpAnyH_take (i := 1) (v := ?vt1_24) rfl (by kernel_rfl) (by kernel_rfl) (by kernel_rfl) (fun _ _ _ h => h) (Or.inl ⟨by rfl, ?hyt1_24⟩) (by assumption) ?restt1_24
      case hyt1_24 => (intro w hSw; have s1 := hSw.1.1.cell; have s2 := hSw.1.2.1.cell; have s3 := hSw.1.2.2.cell; go_simp; try with_reducible rfl)
      try simp only [Act.put, List.setIfInBounds_toArray, List.set_cons_zero, List.set_cons_succ, List.getElem_toArray, List.getElem_cons_succ, List.getElem_cons_zero]
      refine wpAnyH_take (i := 2) (v := ?vt2_25) rfl (by kernel_rfl) (by kernel_rfl) (by kernel_rfl) (fun _ _ _ h => h) (Or.inl ⟨by rfl, ?hyt2_25⟩) (by assumption) ?restt2_25
      case hyt2_25 => (intro w hSw; have s1 := hSw.1.1.cell; have s2 := hSw.1.2.1.cell; have s3 := hSw.1.2.2.cell; go_simp; try with_reducible rfl)
      try simp only [Act.put, List.setIfInBounds_toArray, List.set_cons_zero, List.set_cons_succ, List.getElem_toArray, List.getElem_cons_succ, List.getElem_cons_zero]
      refine wpAnyH_take (i := 3) (v := ?vt3_26) rfl (by kernel_rfl) (by kernel_rfl) (by kernel_rfl) (fun _ _ _ h => h) (Or.inl ⟨by rfl, ?hyt3_26⟩) (by assumption) ?restt3_26
      case hyt3_26 => (intro w hSw; have s1 := hSw.1.1.cell; have s2 := hSw.1.2.1.cell; have s3 := hSw.1.2.2.cell; go_simp; try with_reducible rfl)
      try simp only [Act.put, List.setIfInBounds_toArray, List.set_cons_zero, List.set_cons_succ, List.getElem_toArray, List.getElem_cons_succ, List.getElem_cons_zero]
      refine wpAnyH_take (i := 4) (v := ?vt4_27) rfl (by kernel_rfl) (by kernel_rfl) (by kernel_rfl) (fun _ _ _ h => h) (Or.inl ⟨by rfl, ?hyt4_27⟩) (by assumption) ?restt4_27
      case hyt4_27 => (intro w hSw; have s1 := hSw.1.1.cell; have s2 := hSw.1.2.1.cell; have s3 := hSw.1.2.2.cell; go_simp; try with_reducible rfl)
      try simp only [Act.put, List.setIfInBounds_toArray, List.set_cons_zero, List.set_cons_succ, List.getElem_toArray, List.getElem_cons_succ, List.getElem_cons_zero]
      refine wpAnyH_take (i := 5) (v := ?vt5_28) rfl (by kernel_rfl) (by kernel_rfl) (by kernel_rfl) (fun _ _ _ h => h) (Or.inl ⟨by rfl, ?hyt5_28⟩) (by assumption) ?restt5_28
      case hyt5_28 => (intro w hSw; have s1 := hSw.1.1.cell; have s2 := hSw.1.2.1.cell; have s3 := hSw.1.2.2.cell; go_simp; try with_reducible rfl)
      try simp only [Act.put, List.setIfInBounds_toArray, List.set_cons_zero, List.set_cons_succ, List.getElem_toArray, List.getElem_cons_succ, List.getElem_cons_zero]
      refine wpAnyH_take (i := 6) (v := ?vt6_29) rfl (by kernel_rfl) (by kernel_rfl) (by kernel_rfl) (fun _ _ _ h => h) (Or.inl ⟨by rfl, ?hyt6_29⟩) (by assumption) ?restt6_29
      case hyt6_29 => (intro w hSw; have s1 := hSw.1.1.cell; have s2 := hSw.1.2.1.cell; have s3 := hSw.1.2.2.cell; go_simp; try with_reducible rfl)
      try simp only [Act.put, List.setIfInBounds_toArray, List.set_cons_zero, List.set_cons_succ, List.getElem_toArray, List.getElem_cons_succ, List.getElem_cons_zero]
      refine wpAnyH_take (i := 7) (v := ?vt7_30) rfl (by kernel_rfl) (by kernel_rfl) (by kernel_rfl) (fun _ _ _ h => h) (Or.inl ⟨by rfl, ?hyt7_30⟩) (by assumption) ?restt7_30
      case hyt7_30 => (intro w hSw; have s1 := hSw.1.1.cell; have s2 := hSw.1.2.1.cell; have s3 := hSw.1.2.2.cell; go_simp; try with_reducible rfl)
      try simp only [Act.put, List.setIfInBounds_toArray, List.set_cons_zero, List.set_cons_succ, List.getElem_toArray, List.getElem_cons_succ, List.getElem_cons_zero]
      refine wpAnyH_take (i := 8) (v := ?vt8_31) rfl (by kernel_rfl) (by kernel_rfl) (by kernel_rfl) (fun _ _ _ h => h) (Or.inl ⟨by rfl, ?hyt8_31⟩) (by assumption) ?restt8_31
      case hyt8_31 => (intro w hSw; have s1 := hSw.1.1.cell; have s2 := hSw.1.2.1.cell; have s3 := hSw.1.2.2.cell; go_simp; try with_reducible rfl)
      try simp only [Act.put, List.setIfInBounds_toArray, List.set_cons_zero, List.set_cons_succ, List.getElem_toArray, List.getElem_cons_succ, List.getElem_cons_zero]
      refine wpAnyH_ready (rs := [9]) (by kernel_rfl) (by simp) ?_
      refine AllReadyH.cons rfl (fun K hK => ?_) AllReadyH.nil
      go_simp
      refine (lex_wrd _ _).mono ?_
      rintro e w6 ⟨rfl, rfl⟩
      go_wp2_with fail
      refine hK.out _ _ hHeld (fun hHeld => ?_)
      clear hK K
      try simp only [Act.put, List.setIfInBounds_toArray, List.set_cons_zero, List.set_cons_succ, List.getElem_toArray, List.getElem_cons_succ, List.getElem_cons_zero]
      refine wpAnyH_take (i := 10) (v := ?vt10_33) rfl (by kernel_rfl) (by kernel_rfl) (by kernel_rfl) (fun _ _ _ h => h) (Or.inl ⟨by rfl, ?hyt10_33⟩) (by assumption) ?restt10_33
      case hyt10_33 => (intro w hSw; have s1 := hSw.1.1.cell; have s2 := hSw.1.2.1.cell; have s3 := hSw.1.2.2.cell; go_simp; try with_reducible rfl)
      try simp only [Act.put, List.setIfInBounds_toArray, List.set_cons_zero, List.set_cons_succ, List.getElem_toArray, List.getElem_cons_succ, List.getElem_cons_zero]
      refine wpAnyH_done (by kernel_rfl) ?_ _
      clear hHeld
      generalize hv : isWrd (s[q]'hqs) = v
      have HV := keep hv
      clear hv
      cases v
      · gi_wp2_with fail
        go_end0
        refine ⟨⟨_, rfl⟩, ?_⟩
        have hx := HX.out
        rw [HR.out, HV.out, if_neg (by decide), show bytesV [] = [] from rfl, List.append_nil] at hx
        rw [hx]
        exact HD.out _ _ HJ.out
      · have hx := HX.out
        rw [HR.out, HV.out, if_pos rfl, show bytesV (s[q]'hqs :: wrdRun s (q + 1)) = [.int .u8 (s[q]'hqs).toNat] ++ bytesV (wrdRun s (q + 1)) from rfl, ← List.append_assoc] at hx
        obtain ⟨fn, tmps, assign, body, hy, hR⟩ := HY.out pre (.int .u8 (s[q]'hqs).toNat) wr.drew (HD.out _ _ HJ.out) ⟨_, hx.symm⟩
        have HX2 := keep hx
        clear hx
        have e1 : wr.drew.cell? ⟨o, 0, none⟩ = some (.string s) := HB1.out.cell
        gi_wp2_with fail
        refine ⟨fun _ => by omega, hR.mono ?_⟩
        rintro e W3 ⟨rfl, hJ3, ho3⟩
        clear hR hy e1
        gi_wp2_with fail
        go_roundw
        case rel => exact ⟨pre ++ [.int .u8 (s[q]'hqs).toNat], k + 1, by omega, by rw [← hq]; go_num, keep (by rw [show i + (k + 1) = q + 1 from by omega]; exact HX2.out), Lib.hid ((ho3 o (by simp)).trans HB1.out), Lib.hid ((ho3 (o + 1) (by simp)).trans HB2.out), Lib.hid ((ho3 (o + 2) (by simp)).trans HB3.out), Lib.hid hJ3⟩
        case measure => simp [intOf]; omega
    · obtain rfl : q = s.size := by omega
      gi_wp2_with fail
      refine wpIn_wide.2 ?_
      refine wp_region_held_drew (S := fun W => (Boxed W o 9 (.string s) ∧ Boxed W (o + 1) 3 (.int .i64 (i : Int)) ∧ Boxed W (o + 2) 65 (.func (.func 51) #[] #[])) ∧ J pre W) (by kernel_rfl) ⟨⟨HB1.out, HB2.out, HB3.out⟩, HD.out _ _ HJ.out⟩ (fun hHeld => ?_)
      refine wpAnyH_take (i := 0) (v := ?vt0_34) rfl (by kernel_rfl) (by kernel_rfl) (by kernel_rfl) (fun _ _ _ h => h) (Or.inl ⟨by rfl, ?hyt0_34⟩) (by assumption) ?restt0_34
      case hyt0_34 => (intro w hSw; have s1 := hSw.1.1.cell; have s2 := hSw.1.2.1.cell; have s3 := hSw.1.2.2.cell; go_simp; try with_reducible rfl)
      try simp only [Act.put, List.setIfInBounds_toArray, List.set_cons_zero, List.set_cons_succ, List.getElem_toArray, List.getElem_cons_zero]
      refine wpAnyH_take (i := 1) (v := ?vt1_35) rfl (by kernel_rfl) (by kernel_rfl) (by kernel_rfl) (fun _ _ _ h => h) (Or.inl ⟨by rfl, ?hyt1_35⟩) (by assumption) ?restt1_35
      case hyt1_35 => (intro w hSw; have s1 := hSw.1.1.cell; have s2 := hSw.1.2.1.cell; have s3 := hSw.1.2.2.cell; go_simp; try with_reducible rfl)
      try simp only [Act.put, List.setIfInBounds_toArray, List.set_cons_zero, List.set_cons_succ, List.getElem_toArray, List.getElem_cons_succ, List.getElem_cons_zero]
      refine wpAnyH_take (i := 2) (v := ?vt2_36) rfl (by kernel_rfl) (by kernel_rfl) (by kernel_rfl) (fun _ _ _ h => h) (Or.inl ⟨by rfl, ?hyt2_36⟩) (by assumption) ?restt2_36
      case hyt2_36 => (intro w hSw; have s1 := hSw.1.1.cell; have s2 := hSw.1.2.1.cell; have s3 := hSw.1.2.2.cell; go_simp; try with_reducible rfl)
      try simp only [Act.put, List.setIfInBounds_toArray, List.set_cons_zero, List.set_cons_succ, List.getElem_toArray, List.getElem_cons_succ, List.getElem_cons_zero]
      refine wpAnyH_take (i := 3) (v := ?vt3_37) rfl (by kernel_rfl) (by kernel_rfl) (by kernel_rfl) (fun _ _ _ h => h) (Or.inl ⟨by rfl, ?hyt3_37⟩) (by assumption) ?restt3_37
      case hyt3_37 => (intro w hSw; have s1 := hSw.1.1.cell; have s2 := hSw.1.2.1.cell; have s3 := hSw.1.2.2.cell; go_simp; try with_reducible rfl)
      try simp only [Act.put, List.setIfInBounds_toArray, List.set_cons_zero, List.set_cons_succ, List.getElem_toArray, List.getElem_cons_succ, List.getElem_cons_zero]
      refine wpAnyH_take (i := 4) (v := ?vt4_38) rfl (by kernel_rfl) (by kernel_rfl) (by kernel_rfl) (fun _ _ _ h => h) (Or.inl ⟨by rfl, ?hyt4_38⟩) (by assumption) ?restt4_38
      case hyt4_38 => (intro w hSw; have s1 := hSw.1.1.cell; have s2 := hSw.1.2.1.cell; have s3 := hSw.1.2.2.cell; go_simp; try with_reducible rfl)
      try simp only [Act.put, List.setIfInBounds_toArray, List.set_cons_zero, List.set_cons_succ, List.getElem_toArray, List.getElem_cons_succ, List.getElem_cons_zero]
      refine wpAnyH_take (i := 5) (v := undef) rfl (by kernel_rfl) (by kernel_rfl) (by kernel_rfl) (fun _ _ _ h => h) (Or.inr ⟨by rfl, rfl⟩) (by assumption) ?_
      try simp only [Act.put, List.setIfInBounds_toArray, List.set_cons_zero, List.set_cons_succ, List.getElem_toArray, List.getElem_cons_succ, List.getElem_cons_zero]
      refine wpAnyH_take (i := 6) (v := undef) rfl (by kernel_rfl) (by kernel_rfl) (by kernel_rfl) (fun _ _ _ h => h) (Or.inr ⟨by rfl, rfl⟩) (by assumption) ?_
      try simp only [Act.put, List.setIfInBounds_toArray, List.set_cons_zero, List.set_cons_succ, List.getElem_toArray, List.getElem_cons_succ, List.getElem_cons_zero]
      refine wpAnyH_take (i := 7) (v := undef) rfl (by kernel_rfl) (by kernel_rfl) (by kernel_rfl) (fun _ _ _ h => h) (Or.inr ⟨by rfl, rfl⟩) (by assumption) ?_
      try simp only [Act.put, List.setIfInBounds_toArray, List.set_cons_zero, List.set_cons_succ, List.getElem_toArray, List.getElem_cons_succ, List.getElem_cons_zero]
      refine wpAnyH_take (i := 8) (v := undef) rfl (by kernel_rfl) (by kernel_rfl) (by kernel_rfl) (fun _ _ _ h => h) (Or.inr ⟨by rfl, rfl⟩) (by assumption) ?_
      try simp only [Act.put, List.setIfInBounds_toArray, List.set_cons_zero, List.set_cons_succ, List.getElem_toArray, List.getElem_cons_succ, List.getElem_cons_zero]
      refine wpAnyH_take (i := 9) (v := undef) rfl (by kernel_rfl) (by kernel_rfl) (by kernel_rfl) (fun _ _ _ h => h) (Or.inr ⟨by rfl, rfl⟩) (by assumption) ?_
      try simp only [Act.put, List.setIfInBounds_toArray, List.set_cons_zero, List.set_cons_succ, List.getElem_toArray, List.getElem_cons_succ, List.getElem_cons_zero]
      refine wpAnyH_take (i := 10) (v := ?vt10_44) rfl (by kernel_rfl) (by kernel_rfl) (by kernel_rfl) (fun _ _ _ h => h) (Or.inl ⟨by rfl, ?hyt10_44⟩) (by assumption) ?restt10_44
      case hyt10_44 => (intro w hSw; have s1 := hSw.1.1.cell; have s2 := hSw.1.2.1.cell; have s3 := hSw.1.2.2.cell; go_simp; try with_reducible rfl)
      try simp only [Act.put, List.setIfInBounds_toArray, List.set_cons_zero, List.set_cons_succ, List.getElem_toArray, List.getElem_cons_succ, List.getElem_cons_zero]
      refine wpAnyH_done (by kernel_rfl) ?_ _
      clear hHeld
      gi_wp2_with fail
      go_end0
      refine ⟨⟨_, rfl⟩, ?_⟩
      have hx := HX.out
      rw [show wrdRun s s.size = [] from by unfold wrdRun; rw [List.drop_of_length_le (by rw [Array.length_toList]; exact Nat.le_refl _)]; rfl, show bytesV [] = [] from rfl, List.append_nil] at hx
      rw [hx]
      exact HD.out _ _ HJ.out

set_option maxRecDepth 100000 in
set_option maxHeartbeats 4000000 in
theorem length_wrd (s : ByteArray) (i : Nat) (w : World) (hi : i ≤ s.size) (hs : s.size ≤ 4611686018427387904) :
    Calls Tryd.prog 27 #[.string s, .int .i64 (i : Int), .func (.func 51) #[] #[]] w fun e w' => e = .returned (.int .i64 ((wrdRun s i).length : Int)) ∧ Below w.heap.size w w' := by
  refine (callsIn_wide (n := 4)).1 ?_
  refine callsIn_of_wp_marks Tryd.func27 rfl trivial ?_ rfl
  simp only [Tryd.ntmps27, List.size_toArray, List.length_cons, List.length_nil, Nat.reduceAdd, Nat.reduceSub, Array.replicate_succ, Array.replicate_zero, List.push_toArray, List.append_toArray, List.nil_append, List.cons_append]
  gi_wp2_with fail
  refine ⟨trivial, ((callsIn_wide (n := 3)).2 (lex_piece s (i : Int) 51 _)).mono ?_⟩
  rintro e w' ⟨rfl, rfl⟩
  gi_wp2
  have b0 := Boxed.new w 3 (.int .i64 0)
  have b1 := Boxed.new (w.alloc (.cells #[.int .i64 0] 3)) 9 (.string s)
  have b2 := Boxed.new ((w.alloc (.cells #[.int .i64 0] 3)).alloc (.cells #[.string s] 9)) 3 (.int .i64 (i : Int))
  have b3 := Boxed.new (((w.alloc (.cells #[.int .i64 0] 3)).alloc (.cells #[.string s] 9)).alloc (.cells #[.int .i64 (i : Int)] 3)) 65 (.func (.func 51) #[] #[])
  simp only [World.size_alloc] at b1 b2 b3
  have hB0 : Below w.heap.size w ((((w.alloc (.cells #[.int .i64 0] 3)).alloc (.cells #[.string s] 9)).alloc (.cells #[.int .i64 (i : Int)] 3)).alloc (.cells #[.func (.func 51) #[] #[]] 65)) := ((((Below.refl _ w).alloc (Nat.le_refl _) _).alloc (by simp) _).alloc (by simp; omega) _).alloc (by simp; omega) _
  have hrl : (wrdRun s i).length ≤ s.size := by
    unfold wrdRun
    refine Nat.le_trans (List.takeWhile_prefix _).length_le ?_
    rw [List.length_drop, Array.length_toList]
    exact Nat.sub_le _ _
  have HRL := keep hrl
  clear hrl
  refine range_handsV rfl (by decide) (gf := 63) (lb := #[.pointer (some ⟨w.heap.size + 1 + 1, 0, none⟩), .pointer (some ⟨w.heap.size + 1, 0, none⟩), .pointer (some ⟨w.heap.size + 1 + 2, 0, none⟩)]) rfl trivial (enters_of Tryd.func63 (by kernel_rfl) rfl)
    (bytesV (wrdRun s i)) rfl [w.heap.size + 1, w.heap.size + 1 + 1, w.heap.size + 1 + 2] (by simp) (piece_wrd 3 (by decide) s i hi hs (w.heap.size + 1) _ ((b1.alloc _).alloc _) (b2.alloc _) b3)
    (Counts w) ?put (fun _ _ ob h => ⟨h.1.alloc ob, h.2.alloc h.2.size ob⟩) (fun _ _ h => ⟨h.1, h.2.drew⟩) (fun _ _ _ => trivial)
    ⟨((b0.alloc _).alloc _).alloc _, hB0⟩
    (fun x => { tmps := #[.string s, .int .i64 (i : Int), .func (.func 51) #[] #[], undef, undef, undef, .int .i64 0, .pointer (some ⟨w.heap.size, 0, none⟩), .string s, .int .i64 (i : Int), .func (.func 51) #[] #[], .func (.func 63) #[] #[.pointer (some ⟨w.heap.size + 1 + 1, 0, none⟩), .pointer (some ⟨w.heap.size + 1, 0, none⟩), .pointer (some ⟨w.heap.size + 1 + 2, 0, none⟩)], x, undef, undef, undef], defers := [] }) ?assign ?body ?done
  case put =>
    intro pre W l ob ob' h hl hlo hc
    simp at hl
    exact ⟨(World.putObj_heap_other (by omega)).trans h.1, h.2.os, h.2.tape, h.2.output, by simpa using h.2.size, fun j hj => (World.putObj_heap_other (by omega)).trans (h.2.block j hj)⟩
  case assign =>
    intro l x W K hK
    gi_wp2
    simpa using hK
  case body =>
    rintro l pre x W hl ⟨hv, hB⟩ ho hpx
    have hc := hv.cell
    have hf := hv.frozen
    have hpl : pre.length < 4611686018427387904 := by
      have := hpx.length_le
      have h2 := HRL.out
      simp [bytesV] at this
      omega
    clear b0 b1 b2 b3
    gi_wp2_with fail
    refine ⟨KeepsFrom.of_grownBy (grownBy_setCell' W w.heap.size _) (fun j hj => by obtain rfl := Option.some.inj hj; simp; omega), ⟨?_, hB.setCell (by simp) _⟩, fun o ho' => Below.heap_setCell W ⟨w.heap.size, 0, none⟩ _ _ (by simp at ho'; rcases ho' with rfl | rfl | rfl <;> simp <;> omega)⟩
    rw [List.length_append]
    exact hv.set _
  case done =>
    rintro D W hD ⟨hv, hB⟩ hK
    have hc := hv.cell
    gi_wp2
    refine ⟨by simp, .inl ⟨_, _, rfl, run_takeDeferred hK, ?_⟩⟩
    refine ⟨_, results_tmp rfl _ _ _, ?_, hB.trans (belowK_b (w := w) (Nat.le_refl _) W D _ _ (by simp at hD; omega) hK rfl rfl)⟩
    simp [bytesV]
end Go.Proofs.YtlngjiibbcgkmaaDoor
