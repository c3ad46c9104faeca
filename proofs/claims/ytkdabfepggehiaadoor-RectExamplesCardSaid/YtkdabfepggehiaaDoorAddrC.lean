/- The contract of the law's capitals: a string's bytes, small letters made capitals. -/
import Derived.Test.YtkdabfepggehiaaDoorAddrL
import Derived.Laws.IdiomStrings
namespace Go.Proofs.YtkdabfepggehiaaDoor
open Go.RowKit

/-- the bytes l lie in block b -/
def Bytes8 (w : World) (b : Nat) (l : List UInt8) : Prop := ∀ j (hj : j < l.length), w.cell? ⟨b, j, none⟩ = some (.int .u8 (l[j].toNat : Int)) ∧ w.frozen? ⟨b, j, none⟩ = false
theorem Bytes8.set_ {w : World} {b : Nat} {l : List UInt8} (h : Bytes8 w b l) (i : Nat) (hi : i < l.length) (x : UInt8) (v : Int) (hv : v = (x.toNat : Int)) : Bytes8 (w.setCell ⟨b, i, none⟩ (.int .u8 v)) b (l.set i x) := by
  subst hv
  intro j hj
  have hj' : j < l.length := by simpa using hj
  refine ⟨?_, by rw [World.frozen?_setCell]; exact (h j hj').2⟩
  by_cases e : i = j
  · subst e
    rw [World.cell?_setCell_same' _ _ _ (by rw [(h i hj').1]; rfl)]; simp
  · rw [World.cell?_setCell_other (h := by intro h; injection h with _ h2 _; exact e h2), (h j hj').1]; simp [List.getElem_set, e]
theorem Bytes8.made (w : World) (s : ByteArray) (t : TypeId) (cap : Nat) : Bytes8 (w.alloc (.cells (bytesRow s cap) t ((bytesRow s cap).size, (bytesRow s cap).size + 1))) w.heap.size s.data.toList := by
  intro j hj
  have hj' : j < s.data.size := by simpa using hj
  have hsz : s.data.size ≤ (bytesRow s cap).size := by unfold bytesRow; simp
  refine ⟨?_, ?_⟩
  · rw [World.cell?_alloc_mark, bytesRow_at s cap j hj']
    simp
  · rw [World.frozen?_alloc_mark]
    simp; omega
theorem addr_add0 (b j : Nat) : (Addr.add ⟨b, 0, none⟩ j) = ⟨b, j, none⟩ := by
  unfold Addr.add; split
  · subst_vars; rfl
  · simp
theorem Bytes8.string {P : Program} {w : World} {b : Nat} {l : List UInt8} (h : Bytes8 w b l) (src dst e : TypeId) (hs : P.underlying src = some (.slice e)) (he : P.underlying e = some (.int .u8)) (hd : P.underlying dst = some .string) (cap : Nat) :
    (convert src dst (.slice (some ⟨b, 0, none⟩) l.length cap)).run P w = .ok (.string ⟨l.toArray⟩) w :=
  run_convert_bytes_back w src dst e ⟨b, 0, none⟩ cap l hs he hd fun j hj => by have := (h j hj).1; have e : (Addr.add ⟨b, 0, none⟩ j) = ⟨b, j, none⟩ := addr_add0 b j; rw [e]; exact this

/-- the first k bytes made capitals -/
def upTo (l : List UInt8) (k : Nat) : List UInt8 := (l.take k).map upB ++ l.drop k
theorem upTo_len (l : List UInt8) (k : Nat) : (upTo l k).length = l.length := by simp [upTo]; omega
theorem upTo_at (l : List UInt8) (k : Nat) (h : k < l.length) : (upTo l k)[k]'(by rw [upTo_len]; exact h) = l[k] := by
  unfold upTo
  rw [List.getElem_append_right (by simp; omega)]
  simp [Nat.min_eq_left (Nat.le_of_lt h)]
theorem upTo_succ (l : List UInt8) (k : Nat) (h : k < l.length) : upTo l (k + 1) = (upTo l k).set k (upB l[k]) := by
  have hm : ((l.take k).map upB).length = k := by simp; omega
  unfold upTo
  rw [List.set_append_right _ _ (by omega), hm, Nat.sub_self, List.take_succ_eq_append_getElem h, List.map_append, List.append_assoc, List.drop_eq_getElem_cons h]
  rfl
theorem upTo_same (l : List UInt8) (k : Nat) (h : k < l.length) (e : upB l[k] = l[k]) : upTo l (k + 1) = upTo l k := by
  rw [upTo_succ l k h, e]
  apply List.ext_getElem (by simp)
  intro i h1 h2
  rw [List.getElem_set]
  split
  · rename_i hi
    subst hi
    rw [upTo_at l k h]
  · rfl
theorem upB_same (b : UInt8) (h : ¬ (97 ≤ b.toNat ∧ b.toNat ≤ 122)) : upB b = b := by unfold upB; rw [if_neg h]
theorem upB_low (b : UInt8) (h : 97 ≤ b.toNat ∧ b.toNat ≤ 122) : (upB b).toNat = b.toNat - 32 := by
  unfold upB; rw [if_pos h, UInt8.toNat_ofNat']; omega

set_option maxHeartbeats 1000000 in
theorem capitals_any (s : ByteArray) (w : World) (hs : s.size ≤ 4611686018427387904) :
    Calls Tryd.prog 47 #[.string s] w fun e w' => e = .returned (.string ⟨(s.data.toList.map upB).toArray⟩) ∧ Below w.heap.size w w' := by
  have hcv := run_bytes_of_string (P := Tryd.prog) w 9 79 5 s Tryd.underlying9 Tryd.underlying79 Tryd.underlying5
  have hm := Bytes8.made w.drew s 5 (grownCap w s.size 0 5)
  have hbl : Below w.heap.size w (w.drew.alloc (.cells (bytesRow s (grownCap w s.size 0 5)) 5 ((bytesRow s (grownCap w s.size 0 5)).size, (bytesRow s (grownCap w s.size 0 5)).size + 1))) := (Below.refl _ _).drew.alloc (Nat.le_refl _) _
  generalize (w.drew.alloc (.cells (bytesRow s (grownCap w s.size 0 5)) 5 ((bytesRow s (grownCap w s.size 0 5)).size, (bytesRow s (grownCap w s.size 0 5)).size + 1))) = W0 at hcv hm hbl
  generalize grownCap w s.size 0 5 = cap at hcv
  have HM : Hid (Bytes8 W0 w.heap.size s.data.toList) := hm
  have HB := Lib.hid hbl
  clear hm hbl
  have hlen : s.data.toList.length = s.size := by simp
  have HL := Lib.hid hlen
  clear hlen
  go_enter Tryd.func47, Tryd.ntmps47
  go_wp2_with fail
  go_loopw [4] (fun i wr => ∃ k : Nat, k ≤ s.size ∧ i = .int .i64 k ∧ Hid (Bytes8 wr w.heap.size (upTo s.data.toList k)) ∧ Hid (Below w.heap.size w wr)) (fun i _ => s.size - (intOf i).toNat)
  case atStart => exact ⟨0, Nat.zero_le _, rfl, by simpa [upTo] using HM, HB⟩
  case round =>
    obtain ⟨k, hk, rfl, H1, H2⟩ := hrel
    clear HM HB hcv
    by_cases hlt : k < s.size
    · have hlt' : k < s.data.toList.length := by rw [HL.out]; exact hlt
      have hcell := (H1.out k (by rw [upTo_len]; exact hlt')).1
      have hfroz := (H1.out k (by rw [upTo_len]; exact hlt')).2
      rw [upTo_at _ _ hlt'] at hcell
      obtain ⟨b, hb⟩ : ∃ b, b = s.data.toList[k] := ⟨_, rfl⟩
      rw [← hb] at hcell
      have HBy := Lib.hid hb
      have HLT := Lib.hid hlt'
      have hb8 : b.toNat < 256 := b.toNat_lt
      clear hb
      rcases (show (97 ≤ b.toNat ∧ b.toNat ≤ 122) ∨ b.toNat < 97 ∨ 122 < b.toNat from by omega) with ⟨h1, h2⟩ | h1 | h1
      · go_wp2_with fail
        go_roundw
        case rel =>
          refine ⟨k + 1, by omega, by go_num, ?_, Lib.hid (H2.out.setCell (Nat.le_refl _) _)⟩
          show Bytes8 _ _ _
          rw [upTo_succ _ _ HLT.out, ← HBy.out]
          exact H1.out.set_ k (by rw [upTo_len]; exact HLT.out) _ _ (by rw [upB_low b ⟨h1, h2⟩]; omega)
        case measure => simp [intOf]; omega
      · go_wp2_with fail
        go_roundw
        case rel => exact ⟨k + 1, by omega, by go_num, by rw [upTo_same _ _ HLT.out (by rw [← HBy.out]; exact upB_same b (by omega))]; exact H1, H2⟩
        case measure => simp [intOf]; omega
      · go_wp2_with fail
        go_roundw
        case rel => exact ⟨k + 1, by omega, by go_num, by rw [upTo_same _ _ HLT.out (by rw [← HBy.out]; exact upB_same b (by omega))]; exact H1, H2⟩
        case measure => simp [intOf]; omega
    · have hke : upTo s.data.toList k = s.data.toList.map upB := by
        have : k = s.data.toList.length := by rw [HL.out]; omega
        unfold upTo
        rw [List.take_of_length_le (by omega), List.drop_eq_nil_of_le (by omega), List.append_nil]
      have h1 := H1.out
      rw [hke] at h1
      have hcv2 := h1.string (P := Tryd.prog) 79 9 5 Tryd.underlying79 Tryd.underlying5 Tryd.underlying9 cap
      rw [List.length_map, HL.out] at hcv2
      clear h1 hke
      go_wp2_with fail
      go_ret
      exact ⟨rfl, H2.out⟩
end Go.Proofs.YtkdabfepggehiaaDoor
