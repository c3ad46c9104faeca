/- Plain helpers: a row of bytes of the call's own (as in XAddrC, without the law's capitals). -/
import Derived.Test.YtlngjiibbcgkmaaDoorAddrP
import Derived.Laws.IdiomStrings
namespace Go.Proofs.YtlngjiibbcgkmaaDoor
open Go.RowKit

/-- the bytes l lie in block b -/
def Bytes8 (w : World) (b : Nat) (l : List UInt8) : Prop := ∀ j (hj : j < l.length), w.cell? ⟨b, j, none⟩ = some (.int .u8 (l[j].toNat : Int)) ∧ w.frozen? ⟨b, j, none⟩ = false
theorem Bytes8.set_ {w : World} {b : Nat} {l : List UInt8} (h : Bytes8 w b l) (i : Nat) (_hi : i < l.length) (x : UInt8) (v : Int) (hv : v = (x.toNat : Int)) : Bytes8 (w.setCell ⟨b, i, none⟩ (.int .u8 v)) b (l.set i x) := by
  subst hv
  intro j hj
  have hj' : j < l.length := by simpa using hj
  refine ⟨?_, by rw [World.frozen?_setCell]; exact (h j hj').2⟩
  by_cases e : i = j
  · subst e
    rw [World.cell?_setCell_same' _ _ _ (by rw [(h i hj').1]; rfl)]; simp
  · rw [World.cell?_setCell_other (h := by intro h; injection h with _ h2 _; exact e h2), (h j hj').1]; simp [e]
theorem Bytes8.made (w : World) (s : ByteArray) (t : TypeId) (cap : Nat) : Bytes8 (w.alloc (.cells (bytesRow s cap) t ((bytesRow s cap).size, (bytesRow s cap).size + 1))) w.heap.size s.data.toList := by
  intro j hj
  have hj' : j < s.data.size := by simpa using hj
  have hsz : s.data.size ≤ (bytesRow s cap).size := by unfold bytesRow; simp
  refine ⟨?_, ?_⟩
  · rw [World.cell?_alloc_mark, bytesRow_at s cap j hj']
    simp
  · rw [World.frozen?_alloc_mark]
    simp; omega
theorem addr_add0 (b j : Nat) : (Addr.add ⟨b, 0, none⟩ j) = ⟨b, j, none⟩ := by
  unfold Addr.add; split
  · subst_vars; rfl
  · simp
theorem Bytes8.string {P : Program} {w : World} {b : Nat} {l : List UInt8} (h : Bytes8 w b l) (src dst e : TypeId) (hs : P.underlying src = some (.slice e)) (he : P.underlying e = some (.int .u8)) (hd : P.underlying dst = some .string) (cap : Nat) :
    (convert src dst (.slice (some ⟨b, 0, none⟩) l.length cap)).run P w = .ok (.string ⟨l.toArray⟩) w :=
  run_convert_bytes_back w src dst e ⟨b, 0, none⟩ cap l hs he hd fun j hj => by have := (h j hj).1; have e : (Addr.add ⟨b, 0, none⟩ j) = ⟨b, j, none⟩ := addr_add0 b j; rw [e]; exact this

/-- the first k bytes made capitals -/
def upTo (l : List UInt8) (k : Nat) : List UInt8 := (l.take k).map upB ++ l.drop k
theorem upTo_len (l : List UInt8) (k : Nat) : (upTo l k).length = l.length := by simp [upTo]; omega
theorem upTo_at (l : List UInt8) (k : Nat) (h : k < l.length) : (upTo l k)[k]'(by rw [upTo_len]; exact h) = l[k] := by
  unfold upTo
  rw [List.getElem_append_right (by simp; omega)]
  simp [Nat.min_eq_left (Nat.le_of_lt h)]
theorem upTo_succ (l : List UInt8) (k : Nat) (h : k < l.length) : upTo l (k + 1) = (upTo l k).set k (upB l[k]) := by
  have hm : ((l.take k).map upB).length = k := by simp; omega
  unfold upTo
  rw [List.set_append_right _ _ (by omega), hm, Nat.sub_self, List.take_succ_eq_append_getElem h, List.map_append, List.append_assoc, List.drop_eq_getElem_cons h]
  rfl
theorem upTo_same (l : List UInt8) (k : Nat) (h : k < l.length) (e : upB l[k] = l[k]) : upTo l (k + 1) = upTo l k := by
  rw [upTo_succ l k h, e]
  apply List.ext_getElem (by simp)
  intro i h1 h2
  rw [List.getElem_set]
  split
  · rename_i hi
    subst hi
    rw [upTo_at l k h]
  · rfl
theorem upB_same (b : UInt8) (h : ¬ (97 ≤ b.toNat ∧ b.toNat ≤ 122)) : upB b = b := by unfold upB; rw [if_neg h]
theorem upB_low (b : UInt8) (h : 97 ≤ b.toNat ∧ b.toNat ≤ 122) : (upB b).toNat = b.toNat - 32 := by
  unfold upB; rw [if_pos h, UInt8.toNat_ofNat']; omega
end Go.Proofs.YtlngjiibbcgkmaaDoor
