/- Contracts of tree.below and tree.fits. Plain: the text of a token is read as the token. No program stands here. -/
import Derived.Test.YtmalncmdfmoccaaGreatDoorBShP
import Derived.Test.YtmalncmdfmoccaaGreatDoorBParK
namespace Go.Proofs.YtmalncmdfmoccaaGreatDoor
open Go.RowKit
def RowsAt (w : World) (a : Option Addr) (s : Nat) (l : List (List Value)) : Prop :=
  l ≠ [] → ∃ b o,a = some ⟨b,o,none⟩ ∧ b < w.heap.size ∧ ∀ i r,l[i]? = some r → ∀ j v,r[j]? = some v → w.cell? ⟨b,o + (i * s + j),none⟩ = some v
theorem RowsAt.below {w w' : World} {a : Option Addr} {s : Nat} {l : List (List Value)} (h : RowsAt w a s l) (hb : Below w.heap.size w w') : RowsAt w' a s l:=by
  intro hl
  obtain ⟨b,o,e,h1,h2⟩:=h hl
  exact ⟨b,o,e,Nat.lt_of_lt_of_le h1 hb.size,fun i r hi j v hj => (hb.cell h1).trans (h2 i r hi j v hj)⟩
end Go.Proofs.YtmalncmdfmoccaaGreatDoor
namespace Go.Proofs.YtmalncmdfmoccaaGreatDoor
open Go.RowKit
def sepB (b : UInt8) : Bool:=[37,38,41,42,43,44,45,47,60,61,62,94].contains b
def Sep (l : List UInt8) : Prop:=∀ b r,l = b :: r → sepB b = true
theorem sep_no : ∀ b : UInt8,sepB b = true → isWrd b = false ∧ b ≠ 34 ∧ b ≠ 40 ∧ b ≠ 46 ∧ b ≠ 58 ∧ isDig b = false:=by
  intro b h
  unfold sepB at h
  simp only [List.contains_eq_mem,List.mem_cons,List.not_mem_nil,or_false,decide_eq_true_eq] at h
  rcases h with rfl | rfl | rfl | rfl | rfl | rfl | rfl | rfl | rfl | rfl | rfl | rfl <;> decide
theorem take_stop (p : UInt8 → Bool) (w r : List UInt8) (hw : ∀ b ∈ w,p b = true) (hr : stops p r = true) : (w ++ r).takeWhile p = w ∧ (w ++ r).dropWhile p = r:=by
  induction w with
  | nil =>
    cases r with
    | nil => exact ⟨rfl,rfl⟩
    | cons b r =>
      have hb : p b = false:=by simpa [stops] using hr
      exact ⟨by simp [hb],by simp [hb]⟩
  | cons c w ih =>
    have hc:=hw c (by simp)
    obtain ⟨h1,h2⟩:=ih fun b hb => hw b (by simp [hb])
    exact ⟨by rw [List.cons_append,List.takeWhile_cons,if_pos hc,h1],by rw [List.cons_append,List.dropWhile_cons,if_pos hc,h2]⟩
theorem Sep.stop {r : List UInt8} (h : Sep r) : stops isWrd r = true:=by
  cases r with
  | nil => rfl
  | cons b r => simp [stops,(sep_no b (h b r rfl)).1]
theorem unqS_ne {b : UInt8} {r : List UInt8} (hb : b ≠ 34) (hr : r ≠ []) : unqS (b :: r) = (unqS r).map fun x => (b :: x.1,x.2 + 1):=by
  cases r with
  | nil => exact absurd rfl hr
  | cons c r => rw [unqS,if_neg hb]
theorem unqS_two (r : List UInt8) : unqS (34 :: 34 :: r) = (unqS r).map fun x => (34 :: x.1,x.2 + 2):=by rw [unqS,if_pos rfl,if_pos rfl]
end Go.Proofs.YtmalncmdfmoccaaGreatDoor
