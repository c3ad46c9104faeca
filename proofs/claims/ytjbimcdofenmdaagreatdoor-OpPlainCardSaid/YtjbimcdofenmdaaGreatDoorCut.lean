/- Plain: what strings.Cut at a colon returns, by the place of the first colon. -/
import Derived.Test.YtjbimcdofenmdaaGreatDoorKit
import Derived.Lib.IndexMore
namespace Go.Proofs.YtjbimcdofenmdaaGreatDoor
theorem index_colon (l : List UInt8) (k : Nat) (hk : k < l.length) (h : ∀ j (hj : j < k),l[j]'(by omega) ≠ 58) (h2 : l[k] = 58) : Lib.index l [58] = (k : Int):=by
  induction l generalizing k with
  | nil => simp at hk
  | cons b l ih =>
    match k with
    | 0 =>
      have : b = 58:=by simpa using h2
      subst this
      simp [Lib.index]
    | k + 1 =>
      have hb : b ≠ 58:=by simpa using h 0 (by omega)
      have hi:=ih k (by simpa using hk) (fun j hj => by simpa using h (j + 1) (by omega)) (by simpa using h2)
      have hp : ([58] : List UInt8).isPrefixOf (b :: l) = false:=by simp [List.isPrefixOf]; exact fun e => hb e.symm
      rw [Lib.index,hp,hi]
      have : ((k : Int) == -1) = false:=by rw [beq_eq_false_iff_ne]; omega
      simp [this]
theorem index_none (l : List UInt8) (h : ∀ j (hj : j < l.length),l[j] ≠ 58) : Lib.index l [58] = -1:=by
  induction l with
  | nil => simp [Lib.index]
  | cons b l ih =>
    have hb : b ≠ 58:=h 0 (by simp)
    have hi:=ih (fun j hj => h (j + 1) (by simpa using hj))
    have hp : ([58] : List UInt8).isPrefixOf (b :: l) = false:=by simp [List.isPrefixOf]; exact fun e => hb e.symm
    rw [Lib.index,hp,hi]
    simp
theorem cut_colon (l : List UInt8) (k : Nat) (hk : k < l.length) (h : ∀ j (hj : j < k),l[j]'(by omega) ≠ 58) (h2 : l[k] = 58) : Lib.cut l [58] = (l.take k,l.drop (k + 1),true):=by
  unfold Lib.cut
  rw [index_colon l k hk h h2,if_pos (by omega)]
  simp
theorem cut_none (l : List UInt8) (h : ∀ j (hj : j < l.length),l[j] ≠ 58) : Lib.cut l [58] = (l,[],false):=by
  unfold Lib.cut
  rw [index_none l h,if_neg (by omega)]
end Go.Proofs.YtjbimcdofenmdaaGreatDoor
