/- LexGaps: the walk. -/
import Derived.Test.YtlngjiibbcgkmaaGreatDoorAwk7
namespace Go.Proofs.YtlngjiibbcgkmaaGreatDoor
open Go.RowKit

theorem cut_len (s : ByteArray) (n : Nat) : (s.extract 0 (min (s.size : Int) (n : Int)).toNat).size ≤ n := by
  rw [ByteArray.size_extract]
  omega
theorem env7_of {W : World} {l : List (String × DataW Unit)} (h : laidMetH Tryz.prog l W) (hS : W.ShapedOpen Tryz.prog)
    (hl : l.filter (fun x => x.1 == "louvre/val.words") = [("louvre/val.words", Rows.laid_louvre_val_words)])
    (hp : l.filter (fun x => x.1 == "internal/strconv.uint64pow10") = [("internal/strconv.uint64pow10", Rows.laid_internal_strconv_uint64pow10)]) : WEnv W :=
  ⟨words_of h hl hS, pow_of_laid h hp, Tryz.laysM143.s1_3 W hS⟩
theorem TksAt.take {w : World} {a : Option Addr} {c : Nat} {ts : List (Tk × Int)} (h : TksAt w a c ts) (i : Nat) : TksAt w a c (ts.take i) := by
  refine ⟨Nat.le_trans (by rw [List.length_take]; omega) h.le, h.cap, fun hl => ?_⟩
  have hl2 : ts ≠ [] := by rintro rfl; exact hl (by simp)
  obtain ⟨b, o, e, h1, h2⟩ := h.at_ hl2
  refine ⟨b, o, e, h1, fun j t hj => h2 j t ?_⟩
  rw [List.getElem?_take] at hj
  split at hj
  · exact hj
  · cases hj
theorem pair_len (l : List Tk) : (pairL l).length = l.length := List.length_map _
/-- the cells of a token that are read: its kind, its place -/
theorem TksAt.cell {w : World} {a : Option Addr} {c : Nat} {ts : List Tk} (h : TksAt w a c (pairL ts)) {i : Nat} {t : Tk} (ht : ts[i]? = some t) :
    ∃ b o, a = some ⟨b, o, none⟩ ∧ b < w.heap.size ∧ w.cell? ⟨b, o + i * 8, none⟩ = some (.int .u8 t.kind) ∧ w.cell? ⟨b, o + i * 8 + 7, none⟩ = some (.int .i64 t.at_) := by
  have h1 : (pairL ts)[i]? = some (t, (t.at_ : Int)) := by unfold pairL; rw [List.getElem?_map, ht]; rfl
  obtain ⟨b, o, e, h2, h3⟩ := h.at_ (by intro e; rw [e] at h1; simp at h1)
  have h4 := h3 i _ h1
  exact ⟨b, o, e, h2, by simpa using h4 0 _ rfl, by simpa [Nat.add_assoc] using h4 7 _ rfl⟩

end Go.Proofs.YtlngjiibbcgkmaaGreatDoor
