/- What a strings.Builder's WriteString comes to, off the shelf's own laws. The contracts of glyph.Check and glyph.Quote. lex.name: whether a word may be a name. -/
import Derived.Test.YtlngjiibbcgkmaaGreatDoorShelf
import Derived.Shelf.Strings.BuilderF
import Derived.Test.YtlngjiibbcgkmaaGreatDoorLexI
import Derived.Test.YtlngjiibbcgkmaaGreatDoorLexP
import Derived.Lib.Replace
import Derived.Test.YtlngjiibbcgkmaaGreatDoorLexC
namespace Go.Proofs.YtlngjiibbcgkmaaGreatDoor
section
open Go.RowKit

theorem bld_write (B b : Nat) (bs : List Value) (s : ByteArray) (w : World) (h : Lib.IsBuilderF 79 5 B b bs w) (hlen : bs.length + s.size ≤ 140737488355328) (hBw : B ≤ w.heap.size) :
    Calls Tryz.prog 45 #[.pointer (some ⟨b, 0, none⟩), .string s] w fun e w' => e = .returned (.tuple #[.int .i64 s.size, .nilIface]) ∧ (Lib.BuilderAtF 79 5 B b (.pointer (some ⟨b, 0, none⟩)) (bs ++ Lib.strCells s) w' ∧ Below B w w') :=
  Any.Builder_WriteString_f { Tryz.lays155 with } Tryz.Builder_Extra_155 B b bs s w h hlen hBw
/-- a builder that the call has made, and its bytes -/
def Bld (B b : Nat) (l : List UInt8) (w : World) : Prop := Lib.IsBuilderF 79 5 B b (Lib.byteCells l) w
theorem bld_at_below {T e : TypeId} {B b : Nat} {p : Value} {bs : List Value} {w w' : World} (h : Lib.BuilderAtF T e B b p bs w) (hb : Below w.heap.size w w') : Lib.BuilderAtF T e B b p bs w' := by
  have hlt := h.lt
  obtain ⟨hB, v, hv, hown, hne⟩ := h
  exact ⟨hB, v, (hb.block b hlt).trans hv, hown.kept (row := none) ⟨hb.os, hb.tape, hb.output, hb.size, fun k hk _ => hb.block k hk⟩ (by cases hv : v.ownBlock <;> simp), hne⟩
theorem Bld.below {B b : Nat} {l : List UInt8} {w w' : World} (h : Bld B b l w) (hb : Below w.heap.size w w') : Bld B b l w' :=
  h.elim (fun h => .inl (bld_at_below h hb)) fun h => .inr (bld_at_below h hb)
theorem Bld.new (w : World) : Bld w.heap.size w.heap.size [] (w.alloc (.cells #[.pointer none, .slice none 0 0] 79)) :=
  .inl ⟨Nat.le_refl _, .slice none 0 0, Array.getElem?_push_size, World.ownsRowF_nil _ _ _ _, by simp [Value.ownBlock]⟩
theorem Bld.write {B b : Nat} {l : List UInt8} {w : World} (h : Bld B b l w) (s : ByteArray) (hl : l.length + s.size ≤ 140737488355328) (hBw : B ≤ w.heap.size) :
    Calls Tryz.prog 45 #[.pointer (some ⟨b, 0, none⟩), .string s] w fun e w' => e = .returned (.tuple #[.int .i64 s.size, .nilIface]) ∧ Bld B b (l ++ s.data.toList) w' ∧ Below B w w' := by
  refine (bld_write B b _ s w h (by simpa [Lib.byteCells] using hl) hBw).mono ?_
  rintro e w' ⟨h1, h2, h3⟩
  refine ⟨h1, .inr ?_, h3⟩
  have e1 : Lib.byteCells (l ++ s.data.toList) = Lib.byteCells l ++ Lib.strCells s := by simp [Lib.byteCells, Lib.strCells]
  rw [e1]
  exact h2
theorem Bld.len {B b : Nat} {l : List UInt8} {w : World} (h : Bld B b l w) :
    Calls Tryz.prog 44 #[.pointer (some ⟨b, 0, none⟩)] w fun e w' => e = .returned (.int .i64 l.length) ∧ w' = w := by
  refine (Tryz.Builder_Len_f B b _ w h).mono ?_
  rintro e w' ⟨h1, h2⟩
  exact ⟨by rw [h1]; simp [Lib.byteCells], h2⟩
theorem Bld.text {B b : Nat} {l : List UInt8} {w : World} (h : Bld B b l w) (hBw : B ≤ w.heap.size) :
    Calls Tryz.prog 46 #[.pointer (some ⟨b, 0, none⟩)] w fun e w' => e = .returned (.string ⟨l.toArray⟩) ∧ Bld B b l w' ∧ Below B w w' :=
  Tryz.Builder_String_any_f B b l w h hBw
end
section
open Go.RowKit

theorem replK_quote : ∀ (s : List UInt8) (k : Nat), s.count 34 ≤ k → Lib.replaceK [34] [34, 34] k s = s.flatMap quoteB
  | [], k, _ => by cases k <;> rfl
  | b :: s, k, h => by
    by_cases hb : b = 34
    · subst hb
      rw [List.count_cons_self] at h
      obtain ⟨k, rfl⟩ : ∃ n, k = n + 1 := ⟨k - 1, by omega⟩
      have hi : Lib.index (34 :: s) [34] = ((0 : Nat) : Int) := by rw [Lib.index_one]; rfl
      rw [Lib.replaceK_hit _ _ _ _ 0 hi, List.flatMap_cons]
      have := replK_quote s k (by omega)
      simp only [List.length_cons, List.length_nil, Nat.zero_add, List.drop_succ_cons, List.drop_zero, List.take_zero, List.nil_append]
      rw [this]
      rfl
    · have hb' : (b == 34) = false := beq_eq_false_iff_ne.2 hb
      rw [List.count_cons_of_ne hb] at h
      have hq : (b :: s).flatMap quoteB = b :: s.flatMap quoteB := by
        rw [List.flatMap_cons]
        unfold quoteB
        rw [if_neg hb]
        rfl
      rw [hq, ← replK_quote s k h]
      cases k with
      | zero => rfl
      | succ k =>
        have h1 : Lib.index (b :: s) [34] = if Lib.index s [34] == -1 then -1 else Lib.index s [34] + 1 := by
          rw [Lib.index_one, Lib.index_one]
          conv => lhs; unfold Lib.indexByte
          rw [hb']
          rfl
        have hge := Lib.index_ge s [34]
        by_cases hm : Lib.index s [34] = -1
        · have e1 : Lib.index (b :: s) [34] = -1 := by rw [h1, if_pos (beq_iff_eq.2 hm)]
          unfold Lib.replaceK
          rw [if_pos (beq_iff_eq.2 e1), if_pos (beq_iff_eq.2 hm)]
        · have hm' : ¬ (Lib.index s [34] == -1) = true := fun e => hm (beq_iff_eq.1 e)
          obtain ⟨i, hi⟩ : ∃ i : Nat, Lib.index s [34] = i := ⟨(Lib.index s [34]).toNat, by omega⟩
          have e1 : Lib.index (b :: s) [34] = ((i + 1 : Nat) : Int) := by rw [h1, if_neg hm', hi]; rfl
          rw [Lib.replaceK_hit _ _ _ _ _ e1, Lib.replaceK_hit _ _ _ _ _ hi]
          simp
theorem repl_quote (s : List UInt8) : Lib.replaceAll s [34] [34, 34] = s.flatMap quoteB := by
  unfold Lib.replaceAll Lib.replace
  rw [if_neg (by decide), Lib.replaceNum, if_pos (Or.inl (by decide)), replK_quote]
  rw [Lib.count_one]
  exact Nat.le_refl _
theorem quote_len2 : ∀ l : List UInt8, (l.flatMap quoteB).length ≤ 2 * l.length
  | [] => by simp
  | b :: l => by
    have := quote_len2 l
    have h2 : (quoteB b).length ≤ 2 := by unfold quoteB; split <;> simp
    rw [List.flatMap_cons, List.length_append, List.length_cons]
    omega
/-- what Check hands back -/
def checkT (l : List UInt8) : Int := if 256 < l.length then 5 else if l.all plainB then 0 else 4
theorem glyph_Check (s : ByteArray) (w : World) (hs : s.size ≤ 4611686018427387904) :
    Calls Tryz.prog 112 #[.string s] w fun e w' => e = .returned (.int .i64 (checkT s.data.toList)) ∧ Below w.heap.size w w' := by
  have hl : s.data.toList.length = s.size := Array.length_toList
  obtain ⟨c, hc⟩ : ∃ c, checkT s.data.toList = c := ⟨_, rfl⟩
  rw [hc]
  unfold checkT at hc
  rw [hl] at hc
  have HC := keep hc
  clear hc hl
  go_enter Tryz.func112, Tryz.ntmps112
  by_cases h : 256 < s.size
  · have h1 : decide ((256 : Int) < (s.size : Int)) = true := decide_eq_true (by omega)
    go_wp2
    go_ret
    have := HC.out
    rw [if_pos h] at this
    exact ⟨by rw [this]; rfl, Below.refl _ _⟩
  · have h1 : decide ((256 : Int) < (s.size : Int)) = false := decide_eq_false (by omega)
    go_wp2_with fail
    refine (glyph_printable s _ hs).mono ?_
    rintro e w1 ⟨rfl, hb⟩
    obtain ⟨p, hp⟩ : ∃ p, s.data.toList.all plainB = p := ⟨_, rfl⟩
    rw [hp]
    have HP := keep hp
    have HB := Lib.hid hb
    clear hp hb
    cases p with
    | true =>
      go_wp2
      go_ret
      have := HC.out
      rw [if_neg h, if_pos HP.out] at this
      exact ⟨by rw [this]; rfl, HB.out⟩
    | false =>
      go_wp2
      go_ret
      have := HC.out
      rw [if_neg h, if_neg (by rw [HP.out]; decide)] at this
      exact ⟨by rw [this]; rfl, HB.out⟩
theorem str_two (W : World) (x y : Int) :
    (convert 49 9 (.slice (some ⟨W.heap.size, 0, none⟩) 2 2)).run Tryz.prog (W.alloc (.cells #[.int .u8 x, .int .u8 y] 5)) = .ok (.string ⟨#[UInt8.ofNat x.toNat, UInt8.ofNat y.toNat]⟩) (W.alloc (.cells #[.int .u8 x, .int .u8 y] 5)) := by
  rw [run_convert_bytes_string _ _ _ 5 _ _ _ Tryz.underlying49 Tryz.underlying5 Tryz.underlying9]
  rw [run_bytesToString _ _ 2 2 [x, y]]
  · rfl
  · simp [go_sem]
/-- what Quote hands back -/
def quoteT (l : List UInt8) : List UInt8 := if checkT l = 0 then quoteS l else []
theorem glyph_Quote (s : ByteArray) (w : World) (hs : s.size ≤ 4611686018427387904) (hm : ∃ m, w.cell? ⟨1, 0, none⟩ = some (.int .i64 m)) :
    Calls Tryz.prog 76 #[.string s] w fun e w' => e = .returned (.tuple #[.string ⟨(quoteT s.data.toList).toArray⟩, .int .i64 (checkT s.data.toList)]) ∧ Below w.heap.size w w' := by
  obtain ⟨m, hm⟩ := hm
  have HM := Lib.hid hm
  clear hm
  obtain ⟨c, hc⟩ : ∃ c, checkT s.data.toList = c := ⟨_, rfl⟩
  obtain ⟨q, hq⟩ : ∃ q, quoteT s.data.toList = q := ⟨_, rfl⟩
  have HC := keep hc
  have HQ := keep hq
  rw [hc, hq]
  clear hc hq
  go_enter Tryz.func76, Tryz.ntmps76
  go_wp2_with fail
  refine (glyph_Check s _ hs).mono ?_
  rintro e w1 ⟨rfl, hb⟩
  rw [HC.out]
  have HB := Lib.hid hb
  clear hb
  by_cases h : c = 0
  · subst h
    have hsz : s.size ≤ 256 := by
      have := HC.out
      unfold checkT at this
      split at this
      · cases this
      · have hl : s.data.toList.length = s.size := Array.length_toList
        omega
    have hx := str_two w1 34 34
    go_wp2_with fail
    have hcell := cell_step HB.out HM.out
    refine (Tryz.strings_ReplaceAll s ⟨#[34]⟩ ⟨#[34, 34]⟩ m _ (by omega) ?c2 (by decide) ?c3).mono ?_
    case c2 => exact (World.cell?_alloc_lt _ _ _ (World.block_lt_of_cell? _ _ hcell)).trans hcell
    case c3 =>
      have := Lib.countB_le ⟨#[34]⟩ (by decide) s.size s (Nat.le_refl _)
      show s.size + _ * 2 ≤ _
      omega
    rintro e w2 ⟨rfl, hb⟩
    rw [show (⟨#[34]⟩ : ByteArray).data.toList = [34] from rfl, show (⟨#[34, 34]⟩ : ByteArray).data.toList = [34, 34] from rfl, repl_quote]
    obtain ⟨R, hR⟩ : ∃ R, s.data.toList.flatMap quoteB = R := ⟨_, rfl⟩
    rw [hR]
    have HR := keep hR
    have HB2 := Lib.hid ((HB.out.alloc HB.out.size _).trans (hb.mono (HB.out.alloc HB.out.size _).size))
    have hRl : R.length ≤ 512 := by
      rw [← hR]
      have := quote_len2 s.data.toList
      have hl : s.data.toList.length = s.size := Array.length_toList
      omega
    clear hR hb hx hcell
    go_wp2
    refine bodyPost_ret (v := .tuple #[.string (((⟨#[34]⟩ : ByteArray) ++ ⟨R.toArray⟩) ++ ⟨#[34]⟩), .int .i64 0]) (by simp [results, Tryz.results76, go_sem]) rfl ⟨?_, HB2.out⟩
    rw [← HQ.out]
    unfold quoteT quoteS
    rw [if_pos HC.out, HR.out]
    congr 3
  · have h1 : (c != 0) = true := by simp [h]
    go_wp2
    refine bodyPost_ret (v := .tuple #[.string ⟨#[]⟩, .int .i64 c]) (by simp [results, Tryz.results76, go_sem]) rfl ⟨?_, HB.out⟩
    rw [← HQ.out]
    unfold quoteT
    rw [if_neg (by rw [HC.out]; exact h)]
end
section
open Go.RowKit

attribute [local go_sem] Oper.semAt_some
def namB (b : UInt8) : Bool := capB b || isDig b
theorem lex_nam (b : UInt8) (w : World) : Calls Tryz.prog 117 #[.int .u8 b.toNat] w fun e w' => e = .returned (.bool (namB b)) ∧ w' = w := by
  unfold namB
  have hb := b.toNat_lt
  have h9 := lex_digit b w
  generalize hD : isDig b = D at h9 ⊢
  go_enter Tryz.func117, Tryz.ntmps117
  by_cases h1 : 65 ≤ b.toNat
  · have e1 : decide ((65 : Int) ≤ (b.toNat : Int)) = true := decide_eq_true (by omega)
    by_cases h2 : b.toNat ≤ 90
    · have e2 : decide ((b.toNat : Int) ≤ (90 : Int)) = true := decide_eq_true (by omega)
      have e3 : capB b = true := by unfold capB; exact decide_eq_true ⟨h1, h2⟩
      go_wp2
      go_ret
      rw [e3]
      exact ⟨rfl, rfl⟩
    · have e2 : decide ((b.toNat : Int) ≤ (90 : Int)) = false := decide_eq_false (by omega)
      have e3 : capB b = false := by unfold capB; exact decide_eq_false (fun h => h2 h.2)
      rw [e3]
      go_wp2_with fail
      refine h9.mono ?_
      rintro e w1 ⟨rfl, rfl⟩
      go_wp2
      go_ret
      exact ⟨rfl, rfl⟩
  · have e1 : decide ((65 : Int) ≤ (b.toNat : Int)) = false := decide_eq_false (by omega)
    have e3 : capB b = false := by unfold capB; exact decide_eq_false (fun h => h1 h.1)
    rw [e3]
    go_wp2_with fail
    refine h9.mono ?_
    rintro e w1 ⟨rfl, rfl⟩
    go_wp2
    go_ret
    exact ⟨rfl, rfl⟩
/-- the bytes from a place on that pass the test -/
def namRun (s : ByteArray) (i : Nat) : List UInt8 := (s.data.toList.drop i).takeWhile namB
set_option maxRecDepth 100000 in
set_option maxHeartbeats 4000000 in
theorem piece_nam (m : Nat) (hm : 2 ≤ m) (s : ByteArray) (i : Nat) (hi : i ≤ s.size) (hs : s.size ≤ 4611686018427387904) (o : Nat) (w : World) (h1 : Boxed w o 9 (.string s)) (h2 : Boxed w (o + 1) 3 (.int .i64 (i : Int))) (h3 : Boxed w (o + 2) 97 (.func (.func 117) #[] #[])) :
    HandsV Fence.wide m Tryz.prog 141 #[.pointer (some ⟨o + 1, 0, none⟩), .pointer (some ⟨o, 0, none⟩), .pointer (some ⟨o + 2, 0, none⟩)] [o, o + 1, o + 2] (fun _ => True) (bytesV (namRun s i)) w := by
  intro l J W _ hdrew hY ho h0
  have hB1 : Boxed W o 9 (.string s) := (ho o (by simp)).trans h1
  have hB2 : Boxed W (o + 1) 3 (.int .i64 (i : Int)) := (ho (o + 1) (by simp)).trans h2
  have hB3 : Boxed W (o + 2) 97 (.func (.func 117) #[] #[]) := (ho (o + 2) (by simp)).trans h3
  have HD := Lib.hid hdrew
  have HY := Lib.hid hY
  have h1' : 1 ≤ m - 1 := by omega
  have hc := hB2.cell
  refine callsIn_of_wp Tryz.func141 rfl trivial ?_ rfl
  simp only [Tryz.ntmps141, List.size_toArray, List.length_cons, List.length_nil, Nat.reduceAdd, Nat.reduceSub, Array.replicate_succ, Array.replicate_zero, List.push_toArray, List.append_toArray, List.nil_append, List.cons_append]
  have HB1 := Lib.hid hB1
  have HB2 := Lib.hid hB2
  have HB3 := Lib.hid hB3
  clear hdrew hY ho h1 h2 h3 hB1 hB2 hB3
  gi_wp2
  clear hc
  gi_loopw [5] (fun iv wr => ∃ (pre : List Value) (k : Nat), i + k ≤ s.size ∧ iv = .int .i64 ((i + k : Nat) : Int) ∧ Keep (bytesV (namRun s i) = pre ++ bytesV (namRun s (i + k))) ∧ Hid (Boxed wr o 9 (.string s)) ∧ Hid (Boxed wr (o + 1) 3 (.int .i64 (i : Int))) ∧ Hid (Boxed wr (o + 2) 97 (.func (.func 117) #[] #[])) ∧ Hid (J pre wr)) (fun iv _ => s.size - (intOf iv).toNat)
  case atStart => exact ⟨[], 0, hi, rfl, keep rfl, HB1, HB2, HB3, h0⟩
  case round =>
    clear HB1 HB2 HB3
    obtain ⟨pre, k, hk, rfl, HX, HB1, HB2, HB3, HJ⟩ := hrel
    obtain ⟨q, hq⟩ : ∃ q, i + k = q := ⟨_, rfl⟩
    rw [hq] at hk HX ⊢
    by_cases hlt : (q : Int) < s.size
    · have hsl : s.data.toList.length = s.size := by rw [Array.length_toList]; rfl
      have hqs : q < s.size := by omega
      have hdrop : s.data.toList.drop q = s[q]'hqs :: s.data.toList.drop (q + 1) := List.drop_eq_getElem_cons (by omega)
      have hrun : namRun s q = if namB (s[q]'hqs) = true then s[q]'hqs :: namRun s (q + 1) else [] := by
        unfold namRun
        rw [hdrop, List.takeWhile_cons]
      have HR := keep hrun
      clear hsl hdrop hrun
      gi_wp2_with fail
      refine wpIn_wide.2 ?_
      refine wp_region_held_drew (S := fun W => (Boxed W o 9 (.string s) ∧ Boxed W (o + 1) 3 (.int .i64 (i : Int)) ∧ Boxed W (o + 2) 97 (.func (.func 117) #[] #[])) ∧ J pre W) (by kernel_rfl) ⟨⟨HB1.out, HB2.out, HB3.out⟩, HD.out _ _ HJ.out⟩ (fun hHeld => ?_)
      refine wpAnyH_take (i := 0) (v := ?vt0_1) rfl (by kernel_rfl) (by kernel_rfl) (by kernel_rfl) (fun _ _ _ h => h) (Or.inl ⟨by rfl, ?hyt0_1⟩) (by assumption) ?restt0_1
      case hyt0_1 => (intro w hSw; have s1 := hSw.1.1.cell; have s2 := hSw.1.2.1.cell; have s3 := hSw.1.2.2.cell; go_simp; try with_reducible rfl)
      try simp only [Act.put, List.setIfInBounds_toArray, List.set_cons_zero, List.set_cons_succ, List.getElem_toArray, List.getElem_cons_zero]
      refine wpAnyH_take (i := 1) (v := ?vt1_2) rfl (by kernel_rfl) (by kernel_rfl) (by kernel_rfl) (fun _ _ _ h => h) (Or.inl ⟨by rfl, ?hyt1_2⟩) (by assumption) ?restt1_2
      case hyt1_2 => (intro w hSw; have s1 := hSw.1.1.cell; have s2 := hSw.1.2.1.cell; have s3 := hSw.1.2.2.cell; go_simp; try with_reducible rfl)
      try simp only [Act.put, List.setIfInBounds_toArray, List.set_cons_zero, List.set_cons_succ, List.getElem_toArray, List.getElem_cons_succ, List.getElem_cons_zero]
      refine wpAnyH_take (i := 2) (v := ?vt2_3) rfl (by kernel_rfl) (by kernel_rfl) (by kernel_rfl) (fun _ _ _ h => h) (Or.inl ⟨by rfl, ?hyt2_3⟩) (by assumption) ?restt2_3
      case hyt2_3 => (intro w hSw; have s1 := hSw.1.1.cell; have s2 := hSw.1.2.1.cell; have s3 := hSw.1.2.2.cell; go_simp; try with_reducible rfl)
      try simp only [Act.put, List.setIfInBounds_toArray, List.set_cons_zero, List.set_cons_succ, List.getElem_toArray, List.getElem_cons_succ, List.getElem_cons_zero]
      refine wpAnyH_take (i := 3) (v := ?vt3_4) rfl (by kernel_rfl) (by kernel_rfl) (by kernel_rfl) (fun _ _ _ h => h) (Or.inl ⟨by rfl, ?hyt3_4⟩) (by assumption) ?restt3_4
      case hyt3_4 => (intro w hSw; have s1 := hSw.1.1.cell; have s2 := hSw.1.2.1.cell; have s3 := hSw.1.2.2.cell; go_simp; try with_reducible rfl)
      try simp only [Act.put, List.setIfInBounds_toArray, List.set_cons_zero, List.set_cons_succ, List.getElem_toArray, List.getElem_cons_succ, List.getElem_cons_zero]
      refine wpAnyH_take (i := 4) (v := ?vt4_5) rfl (by kernel_rfl) (by kernel_rfl) (by kernel_rfl) (fun _ _ _ h => h) (Or.inl ⟨by rfl, ?hyt4_5⟩) (by assumption) ?restt4_5
      case hyt4_5 => (intro w hSw; have s1 := hSw.1.1.cell; have s2 := hSw.1.2.1.cell; have s3 := hSw.1.2.2.cell; go_simp; try with_reducible rfl)
      try simp only [Act.put, List.setIfInBounds_toArray, List.set_cons_zero, List.set_cons_succ, List.getElem_toArray, List.getElem_cons_succ, List.getElem_cons_zero]
      refine wpAnyH_take (i := 5) (v := ?vt5_6) rfl (by kernel_rfl) (by kernel_rfl) (by kernel_rfl) (fun _ _ _ h => h) (Or.inl ⟨by rfl, ?hyt5_6⟩) (by assumption) ?restt5_6
      case hyt5_6 => (intro w hSw; have s1 := hSw.1.1.cell; have s2 := hSw.1.2.1.cell; have s3 := hSw.1.2.2.cell; go_simp; try with_reducible rfl)
      try simp only [Act.put, List.setIfInBounds_toArray, List.set_cons_zero, List.set_cons_succ, List.getElem_toArray, List.getElem_cons_succ, List.getElem_cons_zero]
      refine wpAnyH_take (i := 6) (v := ?vt6_7) rfl (by kernel_rfl) (by kernel_rfl) (by kernel_rfl) (fun _ _ _ h => h) (Or.inl ⟨by rfl, ?hyt6_7⟩) (by assumption) ?restt6_7
      case hyt6_7 => (intro w hSw; have s1 := hSw.1.1.cell; have s2 := hSw.1.2.1.cell; have s3 := hSw.1.2.2.cell; go_simp; try with_reducible rfl)
      try simp only [Act.put, List.setIfInBounds_toArray, List.set_cons_zero, List.set_cons_succ, List.getElem_toArray, List.getElem_cons_succ, List.getElem_cons_zero]
      refine wpAnyH_take (i := 7) (v := ?vt7_8) rfl (by kernel_rfl) (by kernel_rfl) (by kernel_rfl) (fun _ _ _ h => h) (Or.inl ⟨by rfl, ?hyt7_8⟩) (by assumption) ?restt7_8
      case hyt7_8 => (intro w hSw; have s1 := hSw.1.1.cell; have s2 := hSw.1.2.1.cell; have s3 := hSw.1.2.2.cell; go_simp; try with_reducible rfl)
      try simp only [Act.put, List.setIfInBounds_toArray, List.set_cons_zero, List.set_cons_succ, List.getElem_toArray, List.getElem_cons_succ, List.getElem_cons_zero]
      refine wpAnyH_take (i := 8) (v := ?vt8_9) rfl (by kernel_rfl) (by kernel_rfl) (by kernel_rfl) (fun _ _ _ h => h) (Or.inl ⟨by rfl, ?hyt8_9⟩) (by assumption) ?restt8_9
      case hyt8_9 => (intro w hSw; have s1 := hSw.1.1.cell; have s2 := hSw.1.2.1.cell; have s3 := hSw.1.2.2.cell; go_simp; try with_reducible rfl)
      try simp only [Act.put, List.setIfInBounds_toArray, List.set_cons_zero, List.set_cons_succ, List.getElem_toArray, List.getElem_cons_succ, List.getElem_cons_zero]
      refine wpAnyH_ready (rs := [9]) (by kernel_rfl) (by simp) ?_
      refine AllReadyH.cons rfl (fun K hK => ?_) AllReadyH.nil
      go_simp
      refine (lex_nam _ _).mono ?_
      rintro e w6 ⟨rfl, rfl⟩
      go_wp2_with fail
      refine hK.out _ _ hHeld (fun hHeld => ?_)
      clear hK K
      try simp only [Act.put, List.setIfInBounds_toArray, List.set_cons_zero, List.set_cons_succ, List.getElem_toArray, List.getElem_cons_succ, List.getElem_cons_zero]
      refine wpAnyH_take (i := 10) (v := ?vt10_11) rfl (by kernel_rfl) (by kernel_rfl) (by kernel_rfl) (fun _ _ _ h => h) (Or.inl ⟨by rfl, ?hyt10_11⟩) (by assumption) ?restt10_11
      case hyt10_11 => (intro w hSw; have s1 := hSw.1.1.cell; have s2 := hSw.1.2.1.cell; have s3 := hSw.1.2.2.cell; go_simp; try with_reducible rfl)
      try simp only [Act.put, List.setIfInBounds_toArray, List.set_cons_zero, List.set_cons_succ, List.getElem_toArray, List.getElem_cons_succ, List.getElem_cons_zero]
      refine wpAnyH_done (by kernel_rfl) ?_ _
      clear hHeld
      generalize hv : namB (s[q]'hqs) = v
      have HV := keep hv
      clear hv
      cases v
      · gi_wp2_with fail
        go_end0
        refine ⟨⟨_, rfl⟩, ?_⟩
        have hx := HX.out
        rw [HR.out, HV.out, if_neg (by decide), show bytesV [] = [] from rfl, List.append_nil] at hx
        rw [hx]
        exact HD.out _ _ HJ.out
      · have hx := HX.out
        rw [HR.out, HV.out, if_pos rfl, show bytesV (s[q]'hqs :: namRun s (q + 1)) = [.int .u8 (s[q]'hqs).toNat] ++ bytesV (namRun s (q + 1)) from rfl, ← List.append_assoc] at hx
        obtain ⟨fn, tmps, assign, body, hy, hR⟩ := HY.out pre (.int .u8 (s[q]'hqs).toNat) wr.drew (HD.out _ _ HJ.out) ⟨_, hx.symm⟩
        have HX2 := keep hx
        clear hx
        have e1 : wr.drew.cell? ⟨o, 0, none⟩ = some (.string s) := HB1.out.cell
        gi_wp2_with fail
        refine ⟨fun _ => by omega, hR.mono ?_⟩
        rintro e W3 ⟨rfl, hJ3, ho3⟩
        clear hR hy e1
        gi_wp2_with fail
        go_roundw
        case rel => exact ⟨pre ++ [.int .u8 (s[q]'hqs).toNat], k + 1, by omega, by rw [← hq]; go_num, keep (by rw [show i + (k + 1) = q + 1 from by omega]; exact HX2.out), Lib.hid ((ho3 o (by simp)).trans HB1.out), Lib.hid ((ho3 (o + 1) (by simp)).trans HB2.out), Lib.hid ((ho3 (o + 2) (by simp)).trans HB3.out), Lib.hid hJ3⟩
        case measure => simp [intOf]; omega
    · obtain rfl : q = s.size := by omega
      gi_wp2_with fail
      refine wpIn_wide.2 ?_
      refine wp_region_held_drew (S := fun W => (Boxed W o 9 (.string s) ∧ Boxed W (o + 1) 3 (.int .i64 (i : Int)) ∧ Boxed W (o + 2) 97 (.func (.func 117) #[] #[])) ∧ J pre W) (by kernel_rfl) ⟨⟨HB1.out, HB2.out, HB3.out⟩, HD.out _ _ HJ.out⟩ (fun hHeld => ?_)
      refine wpAnyH_take (i := 0) (v := ?vt0_12) rfl (by kernel_rfl) (by kernel_rfl) (by kernel_rfl) (fun _ _ _ h => h) (Or.inl ⟨by rfl, ?hyt0_12⟩) (by assumption) ?restt0_12
      case hyt0_12 => (intro w hSw; have s1 := hSw.1.1.cell; have s2 := hSw.1.2.1.cell; have s3 := hSw.1.2.2.cell; go_simp; try with_reducible rfl)
      try simp only [Act.put, List.setIfInBounds_toArray, List.set_cons_zero, List.set_cons_succ, List.getElem_toArray, List.getElem_cons_zero]
      refine wpAnyH_take (i := 1) (v := ?vt1_13) rfl (by kernel_rfl) (by kernel_rfl) (by kernel_rfl) (fun _ _ _ h => h) (Or.inl ⟨by rfl, ?hyt1_13⟩) (by assumption) ?restt1_13
      case hyt1_13 => (intro w hSw; have s1 := hSw.1.1.cell; have s2 := hSw.1.2.1.cell; have s3 := hSw.1.2.2.cell; go_simp; try with_reducible rfl)
      try simp only [Act.put, List.setIfInBounds_toArray, List.set_cons_zero, List.set_cons_succ, List.getElem_toArray, List.getElem_cons_succ, List.getElem_cons_zero]
      refine wpAnyH_take (i := 2) (v := ?vt2_14) rfl (by kernel_rfl) (by kernel_rfl) (by kernel_rfl) (fun _ _ _ h => h) (Or.inl ⟨by rfl, ?hyt2_14⟩) (by assumption) ?restt2_14
      case hyt2_14 => (intro w hSw; have s1 := hSw.1.1.cell; have s2 := hSw.1.2.1.cell; have s3 := hSw.1.2.2.cell; go_simp; try with_reducible rfl)
      try simp only [Act.put, List.setIfInBounds_toArray, List.set_cons_zero, List.set_cons_succ, List.getElem_toArray, List.getElem_cons_succ, List.getElem_cons_zero]
      refine wpAnyH_take (i := 3) (v := ?vt3_15) rfl (by kernel_rfl) (by kernel_rfl) (by kernel_rfl) (fun _ _ _ h => h) (Or.inl ⟨by rfl, ?hyt3_15⟩) (by assumption) ?restt3_15
      case hyt3_15 => (intro w hSw; have s1 := hSw.1.1.cell; have s2 := hSw.1.2.1.cell; have s3 := hSw.1.2.2.cell; go_simp; try with_reducible rfl)
      try simp only [Act.put, List.setIfInBounds_toArray, List.set_cons_zero, List.set_cons_succ, List.getElem_toArray, List.getElem_cons_succ, List.getElem_cons_zero]
      refine wpAnyH_take (i := 4) (v := ?vt4_16) rfl (by kernel_rfl) (by kernel_rfl) (by kernel_rfl) (fun _ _ _ h => h) (Or.inl ⟨by rfl, ?hyt4_16⟩) (by assumption) ?restt4_16
      case hyt4_16 => (intro w hSw; have s1 := hSw.1.1.cell; have s2 := hSw.1.2.1.cell; have s3 := hSw.1.2.2.cell; go_simp; try with_reducible rfl)
      try simp only [Act.put, List.setIfInBounds_toArray, List.set_cons_zero, List.set_cons_succ, List.getElem_toArray, List.getElem_cons_succ, List.getElem_cons_zero]
      refine wpAnyH_take (i := 5) (v := undef) rfl (by kernel_rfl) (by kernel_rfl) (by kernel_rfl) (fun _ _ _ h => h) (Or.inr ⟨by rfl, rfl⟩) (by assumption) ?_
      try simp only [Act.put, List.setIfInBounds_toArray, List.set_cons_zero, List.set_cons_succ, List.getElem_toArray, List.getElem_cons_succ, List.getElem_cons_zero]
      refine wpAnyH_take (i := 6) (v := undef) rfl (by kernel_rfl) (by kernel_rfl) (by kernel_rfl) (fun _ _ _ h => h) (Or.inr ⟨by rfl, rfl⟩) (by assumption) ?_
      try simp only [Act.put, List.setIfInBounds_toArray, List.set_cons_zero, List.set_cons_succ, List.getElem_toArray, List.getElem_cons_succ, List.getElem_cons_zero]
      refine wpAnyH_take (i := 7) (v := undef) rfl (by kernel_rfl) (by kernel_rfl) (by kernel_rfl) (fun _ _ _ h => h) (Or.inr ⟨by rfl, rfl⟩) (by assumption) ?_
      try simp only [Act.put, List.setIfInBounds_toArray, List.set_cons_zero, List.set_cons_succ, List.getElem_toArray, List.getElem_cons_succ, List.getElem_cons_zero]
      refine wpAnyH_take (i := 8) (v := undef) rfl (by kernel_rfl) (by kernel_rfl) (by kernel_rfl) (fun _ _ _ h => h) (Or.inr ⟨by rfl, rfl⟩) (by assumption) ?_
      try simp only [Act.put, List.setIfInBounds_toArray, List.set_cons_zero, List.set_cons_succ, List.getElem_toArray, List.getElem_cons_succ, List.getElem_cons_zero]
      refine wpAnyH_take (i := 9) (v := undef) rfl (by kernel_rfl) (by kernel_rfl) (by kernel_rfl) (fun _ _ _ h => h) (Or.inr ⟨by rfl, rfl⟩) (by assumption) ?_
      try simp only [Act.put, List.setIfInBounds_toArray, List.set_cons_zero, List.set_cons_succ, List.getElem_toArray, List.getElem_cons_succ, List.getElem_cons_zero]
      refine wpAnyH_take (i := 10) (v := ?vt10_22) rfl (by kernel_rfl) (by kernel_rfl) (by kernel_rfl) (fun _ _ _ h => h) (Or.inl ⟨by rfl, ?hyt10_22⟩) (by assumption) ?restt10_22
      case hyt10_22 => (intro w hSw; have s1 := hSw.1.1.cell; have s2 := hSw.1.2.1.cell; have s3 := hSw.1.2.2.cell; go_simp; try with_reducible rfl)
      try simp only [Act.put, List.setIfInBounds_toArray, List.set_cons_zero, List.set_cons_succ, List.getElem_toArray, List.getElem_cons_succ, List.getElem_cons_zero]
      refine wpAnyH_done (by kernel_rfl) ?_ _
      clear hHeld
      gi_wp2_with fail
      go_end0
      refine ⟨⟨_, rfl⟩, ?_⟩
      have hx := HX.out
      rw [show namRun s s.size = [] from by unfold namRun; rw [List.drop_of_length_le (by rw [Array.length_toList]; exact Nat.le_refl _)]; rfl, show bytesV [] = [] from rfl, List.append_nil] at hx
      rw [hx]
      exact HD.out _ _ HJ.out

set_option maxRecDepth 100000 in
set_option maxHeartbeats 4000000 in
theorem length_nam (s : ByteArray) (i : Nat) (w : World) (hi : i ≤ s.size) (hs : s.size ≤ 4611686018427387904) :
    Calls Tryz.prog 54 #[.string s, .int .i64 (i : Int), .func (.func 117) #[] #[]] w fun e w' => e = .returned (.int .i64 ((namRun s i).length : Int)) ∧ Below w.heap.size w w' := by
  refine (callsIn_wide (n := 4)).1 ?_
  refine callsIn_of_wp_marks Tryz.func54 rfl trivial ?_ rfl
  simp only [Tryz.ntmps54, List.size_toArray, List.length_cons, List.length_nil, Nat.reduceAdd, Nat.reduceSub, Array.replicate_succ, Array.replicate_zero, List.push_toArray, List.append_toArray, List.nil_append, List.cons_append]
  gi_wp2_with fail
  refine ⟨trivial, ((callsIn_wide (n := 3)).2 (lex_piece s (i : Int) 117 _)).mono ?_⟩
  rintro e w' ⟨rfl, rfl⟩
  gi_wp2
  have b0 := Boxed.new w 3 (.int .i64 0)
  have b1 := Boxed.new (w.alloc (.cells #[.int .i64 0] 3)) 9 (.string s)
  have b2 := Boxed.new ((w.alloc (.cells #[.int .i64 0] 3)).alloc (.cells #[.string s] 9)) 3 (.int .i64 (i : Int))
  have b3 := Boxed.new (((w.alloc (.cells #[.int .i64 0] 3)).alloc (.cells #[.string s] 9)).alloc (.cells #[.int .i64 (i : Int)] 3)) 97 (.func (.func 117) #[] #[])
  simp only [World.size_alloc] at b1 b2 b3
  have hB0 : Below w.heap.size w ((((w.alloc (.cells #[.int .i64 0] 3)).alloc (.cells #[.string s] 9)).alloc (.cells #[.int .i64 (i : Int)] 3)).alloc (.cells #[.func (.func 117) #[] #[]] 97)) := ((((Below.refl _ w).alloc (Nat.le_refl _) _).alloc (by simp) _).alloc (by simp; omega) _).alloc (by simp; omega) _
  have hrl : (namRun s i).length ≤ s.size := by
    unfold namRun
    refine Nat.le_trans (List.takeWhile_prefix _).length_le ?_
    rw [List.length_drop, Array.length_toList]
    exact Nat.sub_le _ _
  have HRL := keep hrl
  clear hrl
  refine range_handsV rfl (by decide) (gf := 141) (lb := #[.pointer (some ⟨w.heap.size + 1 + 1, 0, none⟩), .pointer (some ⟨w.heap.size + 1, 0, none⟩), .pointer (some ⟨w.heap.size + 1 + 2, 0, none⟩)]) rfl trivial (enters_of Tryz.func141 (by kernel_rfl) rfl)
    (bytesV (namRun s i)) rfl [w.heap.size + 1, w.heap.size + 1 + 1, w.heap.size + 1 + 2] (by simp) (piece_nam 3 (by decide) s i hi hs (w.heap.size + 1) _ ((b1.alloc _).alloc _) (b2.alloc _) b3)
    (Counts w) ?put (fun _ _ ob h => ⟨h.1.alloc ob, h.2.alloc h.2.size ob⟩) (fun _ _ h => ⟨h.1, h.2.drew⟩) (fun _ _ _ => trivial)
    ⟨((b0.alloc _).alloc _).alloc _, hB0⟩
    (fun x => { tmps := #[.string s, .int .i64 (i : Int), .func (.func 117) #[] #[], undef, undef, undef, .int .i64 0, .pointer (some ⟨w.heap.size, 0, none⟩), .string s, .int .i64 (i : Int), .func (.func 117) #[] #[], .func (.func 141) #[] #[.pointer (some ⟨w.heap.size + 1 + 1, 0, none⟩), .pointer (some ⟨w.heap.size + 1, 0, none⟩), .pointer (some ⟨w.heap.size + 1 + 2, 0, none⟩)], x, undef, undef, undef], defers := [] }) ?assign ?body ?done
  case put =>
    intro pre W l ob ob' h hl hlo hc
    simp at hl
    exact ⟨(World.putObj_heap_other (by omega)).trans h.1, h.2.os, h.2.tape, h.2.output, by simpa using h.2.size, fun j hj => (World.putObj_heap_other (by omega)).trans (h.2.block j hj)⟩
  case assign =>
    intro l x W K hK
    gi_wp2
    simpa using hK
  case body =>
    rintro l pre x W hl ⟨hv, hB⟩ ho hpx
    have hc := hv.cell
    have hf := hv.frozen
    have hpl : pre.length < 4611686018427387904 := by
      have := hpx.length_le
      have h2 := HRL.out
      simp [bytesV] at this
      omega
    clear b0 b1 b2 b3
    gi_wp2_with fail
    refine ⟨KeepsFrom.of_grownBy (grownBy_setCell' W w.heap.size _) (fun j hj => by obtain rfl := Option.some.inj hj; simp; omega), ⟨?_, hB.setCell (by simp) _⟩, fun o ho' => Below.heap_setCell W ⟨w.heap.size, 0, none⟩ _ _ (by simp at ho'; rcases ho' with rfl | rfl | rfl <;> simp <;> omega)⟩
    rw [List.length_append]
    exact hv.set _
  case done =>
    rintro D W hD ⟨hv, hB⟩ hK
    have hc := hv.cell
    gi_wp2
    refine ⟨by simp, .inl ⟨_, _, rfl, run_takeDeferred hK, ?_⟩⟩
    refine ⟨_, results_tmp rfl _ _ _, ?_, hB.trans (belowK_b (w := w) (Nat.le_refl _) W D _ _ (by simp at hD; omega) hK rfl rfl)⟩
    simp [bytesV]
theorem takeWhile_all {p : UInt8 → Bool} : ∀ l : List UInt8, ((l.takeWhile p).length = l.length) ↔ l.all p = true
  | [] => by simp
  | b :: l => by
    rw [List.takeWhile_cons, List.all_cons]
    by_cases h : p b = true
    · rw [if_pos h, h, Bool.true_and, ← takeWhile_all l]
      simp
    · rw [if_neg h, Bool.eq_false_iff.2 h, Bool.false_and]
      simp
theorem lex_name (s : ByteArray) (w : World) (hs : s.size ≤ 4611686018427387904) :
    Calls Tryz.prog 78 #[.string s] w fun e w' => e = .returned (.bool (nameB s.data.toList)) ∧ Below w.heap.size w w' := by
  have hl : s.data.toList.length = s.size := Array.length_toList
  obtain ⟨c, hc⟩ : ∃ c, nameB s.data.toList = c := ⟨_, rfl⟩
  rw [hc]
  unfold nameB at hc
  by_cases h0 : s.size = 0
  · have hs0 : s = ⟨#[]⟩ := by
      apply ByteArray.ext
      exact Array.eq_empty_of_size_eq_zero h0
    subst hs0
    obtain rfl : false = c := by rw [← hc]; rfl
    clear hc hl
    go_enter Tryz.func78, Tryz.ntmps78
    go_wp2
    go_ret
    exact ⟨rfl, Below.refl _ _⟩
  · obtain ⟨b, r, hx⟩ := List.exists_cons_of_length_pos (l := s.data.toList) (by omega)
    have hpos : 0 < s.size := Nat.pos_of_ne_zero h0
    have hb0 : s[0]'hpos = b := by
      show s.data.toList[0]'(by rw [hl]; omega) = b
      simp only [hx]
      rfl
    have hbn := b.toNat_lt
    have hb0' : (s[0]'hpos).toNat = b.toNat := by rw [hb0]
    have hem : s.toList.isEmpty = false := by rw [ByteArray.toList_eq s, hx]; rfl
    have HX := keep hx
    have HC := keep hc
    have HL := keep hl
    clear hx hc hb0 hl
    go_enter Tryz.func78, Tryz.ntmps78
    by_cases h1 : 256 ≤ s.size
    · have e1 : decide ((256 : Int) ≤ (s.size : Int)) = true := decide_eq_true (by omega)
      obtain rfl : false = c := by
        rw [← HC.out, HL.out, decide_eq_false (p := s.size < 256) (by omega)]
        simp
      go_wp2
      go_ret
      exact ⟨rfl, Below.refl _ _⟩
    · have e1 : decide ((256 : Int) ≤ (s.size : Int)) = false := decide_eq_false (by omega)
      by_cases h2 : b.toNat < 65
      · have e2 : decide ((b.toNat : Int) < 65) = true := decide_eq_true (by omega)
        obtain rfl : false = c := by
          rw [← HC.out, HX.out, List.head?_cons, Option.any_some, show capB b = false from by unfold capB; exact decide_eq_false (by omega)]
          rfl
        go_wp2
        go_ret
        exact ⟨rfl, Below.refl _ _⟩
      · have e2 : decide ((b.toNat : Int) < 65) = false := decide_eq_false (by omega)
        by_cases h3 : 90 < b.toNat
        · have e3 : decide ((90 : Int) < (b.toNat : Int)) = true := decide_eq_true (by omega)
          obtain rfl : false = c := by
            rw [← HC.out, HX.out, List.head?_cons, Option.any_some, show capB b = false from by unfold capB; exact decide_eq_false (by omega)]
            rfl
          go_wp2
          go_ret
          exact ⟨rfl, Below.refl _ _⟩
        · have e3 : decide ((90 : Int) < (b.toNat : Int)) = false := decide_eq_false (by omega)
          have hcap : capB b = true := by unfold capB; exact decide_eq_true (by omega)
          have hr : ((((namRun s 0).length : Nat) : Int) == ((s.size : Nat) : Int)) = c := by
            rw [← HC.out, HL.out, HX.out, List.head?_cons, Option.any_some, hcap, decide_eq_true (p := s.size < 256) (by omega), ← HX.out, Bool.eq_iff_iff]
            simp only [Bool.true_and]
            rw [show (fun b => capB b || isDig b) = namB from rfl, ← takeWhile_all, HL.out, beq_iff_eq]
            unfold namRun
            rw [List.drop_zero]
            omega
          have HR := keep hr
          clear hr
          go_wp2_with fail
          refine (length_nam s 0 _ (by omega) hs).mono ?_
          rintro e w1 ⟨rfl, hb⟩
          have HB := Lib.hid hb
          clear hb
          obtain ⟨n, hn⟩ : ∃ n : Int, (((namRun s 0).length : Nat) : Int) = n := ⟨_, rfl⟩
          have hr := HR.out
          rw [hn] at hr ⊢
          clear hn HR
          go_wp2
          go_ret
          exact ⟨rfl, HB.out⟩
end
end Go.Proofs.YtlngjiibbcgkmaaGreatDoor
