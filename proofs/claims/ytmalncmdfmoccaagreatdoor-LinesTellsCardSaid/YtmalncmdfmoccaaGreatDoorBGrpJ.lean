/- The library's table of powers of ten, out of the row's list. Plain: the canonical text of a set, word after word. The contract of the reference's digits. -/
import Derived.Test.YtmalncmdfmoccaaGreatDoorBAddrW3
import Derived.LaidSub
import Derived.Test.YtmalncmdfmoccaaGreatDoorBGrpF
import Derived.Lib.Join
namespace Go.Proofs.YtmalncmdfmoccaaGreatDoor
open Go.RowKit
theorem pow_type : (Tryz.prog.globals[3]?).map (·.type) = some 246:=by kernel_rfl
theorem pow_cells : Tryz.prog.cellsOf 246 = 20:=by kernel_rfl
theorem u64_cells : Tryz.prog.cellsOf 50 = 1:=by kernel_rfl
theorem pow_of_one {W : World} (h : laidMet Tryz.prog [("internal/strconv.uint64pow10", Lib.tabData .u64 Lib.pow10Tab)] W) : Pow W :=
  Lib.tabIs_of_head gPow pow_type Tryz.underlying246 Tryz.underlying50 u64_cells pow_cells h
theorem pow_datum : (Rows.laid_internal_strconv_uint64pow10 : DataW Unit) = Lib.tabData .u64 Lib.pow10Tab:=by kernel_rfl
theorem pow_of_laid {W : World} {l : List (String × DataW Unit)} (h : laidMetH Tryz.prog l W)
    (hl : l.filter (fun x => x.1 == "internal/strconv.uint64pow10") = [("internal/strconv.uint64pow10", Rows.laid_internal_strconv_uint64pow10)]) : Pow W := by
  have h2 := h.filter (fun x => x.1 == "internal/strconv.uint64pow10")
  rw [hl,pow_datum] at h2
  exact pow_of_one h2
end Go.Proofs.YtmalncmdfmoccaaGreatDoor
namespace Go.Proofs.YtmalncmdfmoccaaGreatDoor
open Go.RowKit
def textW (s k : Nat) : List UInt8:=Lib.join (wordsF s k).2 [44]
def gfmtL (s : Nat) : List UInt8:=if s = 0 then [45] else if s = 18446744073709551615 then [42] else textW s 64
theorem join_snoc (ws : List (List UInt8)) (x sep : List UInt8) (h : ws ≠ []) : Lib.join (ws ++ [x]) sep = Lib.join ws sep ++ (sep ++ x):=by
  cases ws with
  | nil => exact absurd rfl h
  | cons y r => rw [List.cons_append,Lib.join_cons,Lib.join_cons]; simp [Lib.joinTail,List.append_assoc]
theorem dig2_ne (n : Nat) : dig2 n ≠ []:=by unfold dig2; split <;> simp
theorem wordF_ne (u v : Nat) : wordF u v ≠ []:=by unfold wordF; split <;> simp [dig2_ne]
theorem wordsF_ne (s k : Nat) : ∀ x ∈ (wordsF s k).2,x ≠ []:=by
  induction k with
  | zero => intro x hx; cases hx
  | succ k ih =>
    intro x hx
    rw [wordsF] at hx
    split at hx
    · rcases List.mem_append.1 hx with hx | hx
      · exact ih x hx
      · rw [List.mem_singleton] at hx; subst hx; exact wordF_ne _ _
    · exact ih x hx
theorem join_ne (ws : List (List UInt8)) (h : ∀ x ∈ ws,x ≠ []) (hw : ws ≠ []) : Lib.join ws [44] ≠ []:=by
  cases ws with
  | nil => exact absurd rfl hw
  | cons y r => rw [Lib.join_cons]; have:=h y (by simp); simp [this]
theorem textW_nil (s k : Nat) : textW s k = [] ↔ (wordsF s k).2 = []:=by
  constructor
  · intro h
    rcases Classical.em ((wordsF s k).2 = []) with c | c
    · exact c
    · exact absurd h (join_ne _ (wordsF_ne s k) c)
  · intro h; rw [textW,h]; rfl
def addW (t x : List UInt8) : List UInt8:=if t = [] then x else t ++ 44 :: x
theorem textW_add (s k m : Nat) (x : List UInt8) (h : (wordsF s m).2 = (wordsF s k).2 ++ [x]) : textW s m = addW (textW s k) x:=by
  rw [textW,h,addW]
  split
  · next h0 => rw [(textW_nil s k).1 h0]; exact Lib.join_one _ _
  · next h0 =>
    rw [join_snoc _ _ _ (fun e => h0 ((textW_nil s k).2 e))]
    rfl
theorem dig2_len (n : Nat) : (dig2 n).length ≤ 2:=by unfold dig2; split <;> simp
theorem wordF_len (u v : Nat) : (wordF u v).length ≤ 5:=by
  have h1:=dig2_len u
  have h2:=dig2_len v
  unfold wordF
  split
  · omega
  · simp; omega
theorem addW_len (t x : List UInt8) : (addW t x).length ≤ t.length + x.length + 1:=by
  unfold addW
  split
  · omega
  · simp; omega
theorem textW_len (s k : Nat) : (textW s k).length ≤ 6 * k:=by
  induction k with
  | zero => exact Nat.le_refl _
  | succ k ih =>
    by_cases c : s.testBit k = true ∧ (wordsF s k).1 ≤ k
    · rw [textW_add s k (k + 1) (wordF k (lastS s k)) (by rw [wordsF,if_pos c])]
      have h1:=addW_len (textW s k) (wordF k (lastS s k))
      have h2:=wordF_len k (lastS s k)
      omega
    · rw [textW,wordsF,if_neg c]
      have : (Lib.join (wordsF s k).2 [44]).length ≤ 6 * k:=ih
      omega
end Go.Proofs.YtmalncmdfmoccaaGreatDoor
namespace Go.Proofs.YtmalncmdfmoccaaGreatDoor
open Go.RowKit
end Go.Proofs.YtmalncmdfmoccaaGreatDoor
