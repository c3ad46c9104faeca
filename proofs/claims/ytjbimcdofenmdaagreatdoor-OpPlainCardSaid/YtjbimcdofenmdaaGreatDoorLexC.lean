/- A loop over an iterator that writes no captured cell: one value a round, nobody leaves early (XIter's like). No program stands here. Contracts of the lexer's tests of bytes. The iterator piece of the lexer, and length: how many bytes from a place on pass a test. Plain helpers: a row of bytes of the call's own (as in XAddrC, without the law's capitals). The contract of glyph.Upper. Contracts of dec.digits, dec.signed and of the lexer's next and plain. -/
import Derived.Test.YtjbimcdofenmdaaGreatDoorIter
import Derived.RangeFuncNested
import Derived.RangeFuncBound
import Derived.RangeFuncCalls
import Derived.RangeFuncLeaves
import Derived.RangeFuncBox
import Derived.Shelf.Abstract
import Derived.OwnWalkIn
import Derived.TacticsInMore
import Derived.LoopNIn
import Derived.LoopIn
import Derived.Maps.AppendAt
import Derived.Test.YtjbimcdofenmdaaGreatDoorLexP
import Derived.IntWalk
import Derived.Test.YtjbimcdofenmdaaGreatDoorAddrP
import Derived.Laws.IdiomStrings
import Derived.Test.YtjbimcdofenmdaaGreatDoorOk
import Derived.Lib.Strings
namespace Go.Proofs.YtjbimcdofenmdaaGreatDoor
open Go.RowKit
end Go.Proofs.YtjbimcdofenmdaaGreatDoor
namespace Go.Proofs.YtjbimcdofenmdaaGreatDoor
section
open Go.RowKit
end
section
open Go.RowKit
attribute [local go_sem] Oper.semAt_some
def bytesV (l : List UInt8) : List Value:=l.map fun b => .int .u8 b.toNat
end
section
open Go.RowKit
def Bytes8 (w : World) (b : Nat) (l : List UInt8) : Prop:=∀ j (hj : j < l.length),w.cell? ⟨b,j,none⟩ = some (.int .u8 (l[j].toNat : Int)) ∧ w.frozen? ⟨b,j,none⟩ = false
theorem Bytes8.set_ {w : World} {b : Nat} {l : List UInt8} (h : Bytes8 w b l) (i : Nat) (_hi : i < l.length) (x : UInt8) (v : Int) (hv : v = (x.toNat : Int)) : Bytes8 (w.setCell ⟨b,i,none⟩ (.int .u8 v)) b (l.set i x):=by
  subst hv
  intro j hj
  have hj' : j < l.length:=by simpa using hj
  refine ⟨?_,by rw [World.frozen?_setCell]; exact (h j hj').2⟩
  by_cases e : i = j
  · subst e
    rw [World.cell?_setCell_same' _ _ _ (by rw [(h i hj').1]; rfl)]; simp
  · rw [World.cell?_setCell_other (h:=by intro h; injection h with _ h2 _; exact e h2),(h j hj').1]; simp [e]
theorem Bytes8.made (w : World) (s : ByteArray) (t : TypeId) (cap : Nat) : Bytes8 (w.alloc (.cells (bytesRow s cap) t ((bytesRow s cap).size,(bytesRow s cap).size + 1))) w.heap.size s.data.toList:=by
  intro j hj
  have hj' : j < s.data.size:=by simpa using hj
  have hsz : s.data.size ≤ (bytesRow s cap).size:=by unfold bytesRow; simp
  refine ⟨?_,?_⟩
  · rw [World.cell?_alloc_mark,bytesRow_at s cap j hj']
    simp
  · rw [World.frozen?_alloc_mark]
    simp; omega
theorem addr_add0 (b j : Nat) : (Addr.add ⟨b,0,none⟩ j) = ⟨b,j,none⟩:=by
  unfold Addr.add; split
  · subst_vars; rfl
  · simp
theorem Bytes8.string {P : Program} {w : World} {b : Nat} {l : List UInt8} (h : Bytes8 w b l) (src dst e : TypeId) (hs : P.underlying src = some (.slice e)) (he : P.underlying e = some (.int .u8)) (hd : P.underlying dst = some .string) (cap : Nat) :
    (convert src dst (.slice (some ⟨b,0,none⟩) l.length cap)).run P w = .ok (.string ⟨l.toArray⟩) w :=
  run_convert_bytes_back w src dst e ⟨b,0,none⟩ cap l hs he hd fun j hj => by have:=(h j hj).1; have e : (Addr.add ⟨b,0,none⟩ j) = ⟨b,j,none⟩:=addr_add0 b j; rw [e]; exact this
end
section
open Go.RowKit
end
section
open Go.RowKit
end
end Go.Proofs.YtjbimcdofenmdaaGreatDoor
