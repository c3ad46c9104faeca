/- Plain facts on the text of a range: what is written is read as the range; what is read is a range. -/
import Derived.Test.YtjbimcdofenmdaaGreatDoorRectU
namespace Go.Proofs.YtjbimcdofenmdaaGreatDoor
open Go.RowKit
theorem let_58 (b : UInt8) (h : isLet b = true) : b ≠ 58:=by
  rintro rfl
  exact absurd h (by decide)
theorem dig_58 (b : UInt8) (h : isDig b = true) : b ≠ 58:=by
  rintro rfl
  exact absurd h (by decide)
theorem format_58 (c r : Int) : ∀ b ∈ (formatS c r).1,b ≠ 58:=by
  intro b hb
  cases hv : validN c r
  · rw [formatS_bad c r hv] at hb; simp at hb
  · rw [formatS_good c r hv] at hb
    rcases List.mem_append.1 hb with h | h
    · exact let_58 b (letters_let _ b h)
    · exact dig_58 b (List.all_eq_true.1 (dec_dig _) b h)
theorem cut_fmt1 (l : List UInt8) (h : ∀ b ∈ l,b ≠ 58) : Lib.cut l [58] = (l,[],false):=cut_none l fun _ _ => h _ (List.getElem_mem _)
theorem cut_fmt2 (l k : List UInt8) (h : ∀ b ∈ l,b ≠ 58) : Lib.cut (l ++ 58 :: k) [58] = (l,k,true):=by
  have:=cut_colon (l ++ 58 :: k) l.length (by simp) (fun j hj => by rw [List.getElem_append_left hj]; exact h _ (List.getElem_mem _)) (by simp)
  rw [this]
  simp
theorem parse_fmt (r : R4) (h : checkB r = true) : parseR (fmtL r) = (r,0):=by
  obtain ⟨a1,a2,a3,a4⟩:=r
  obtain ⟨h1,h2⟩:=check_valid h
  have hc:=(checkB_iff _).1 h
  simp only [] at hc
  have p1:=parse_format a1 a2 h1
  have p2:=parse_format a3 a4 h2
  unfold parseR fromS toS
  by_cases he : a1 = a3 ∧ a2 = a4
  · rw [fmtL_one _ he,cut_fmt1 _ (format_58 _ _)]
    obtain ⟨rfl,rfl⟩:=he
    simp only [Bool.false_eq_true,if_false]
    rw [p1]
    simp [parseAB]
  · rw [(fmtL_two _ h he).1,cut_fmt2 _ _ (format_58 _ _)]
    simp only [if_true]
    rw [p1,p2]
    simp [parseAB]
    omega
theorem parse_check (l : List UInt8) (h : (parseR l).2 = 0) : checkB (parseR l).1 = true:=by
  unfold parseR at h ⊢
  have ka:=parse_ok (fromS l)
  have kb:=parse_ok (toS l)
  generalize parseS (fromS l) = A at h ka ⊢
  generalize parseS (toS l) = B at h kb ⊢
  obtain ⟨A1,A2,A3⟩:=A
  obtain ⟨B1,B2,B3⟩:=B
  unfold parseAB at h ⊢
  simp only [] at h ka kb ⊢
  by_cases h4 : A3 = 4 ∨ B3 = 4
  · rw [if_pos h4] at h; simp at h
  · rw [if_neg h4] at h ⊢
    by_cases h3 : A3 ≠ 0 ∨ B3 ≠ 0
    · rw [if_pos h3] at h; simp at h
    · rw [if_neg h3]
      have va:=validN_parts (ka (by omega)).1
      have vb:=validN_parts (kb (by omega)).1
      rw [checkB_iff]
      simp only []
      omega
theorem fmtL_len (r : R4) : (fmtL r).length ≤ 6001:=by
  have h1:=format_len r.c1 r.r1
  have h2:=format_len r.c2 r.r2
  unfold fmtL
  split <;> simp <;> omega
theorem rect_Parse_l (l : List UInt8) (m : Int) (w : World) (hs : l.length < 4294967281) (hm : w.cell? ⟨2,0,none⟩ = some (.int .i64 m)) :
    Calls Tryz.prog 90 #[.string ⟨l.toArray⟩] w fun e w' => e = .returned (.tuple #[.agg #[.int .i64 (parseR l).1.c1,.int .i64 (parseR l).1.r1,.int .i64 (parseR l).1.c2,.int .i64 (parseR l).1.r2],.int .i64 (parseR l).2]) ∧ Below w.heap.size w w':=rect_Parse ⟨l.toArray⟩ m w hs hm
end Go.Proofs.YtjbimcdofenmdaaGreatDoor
