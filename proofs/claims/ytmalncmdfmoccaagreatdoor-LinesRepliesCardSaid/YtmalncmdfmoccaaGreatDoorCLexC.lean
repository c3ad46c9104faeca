/- Contracts of the lexer's tests of bytes. The iterator piece of the lexer, and length: how many bytes from a place on pass a test. Plain helpers: a row of bytes of the call's own (as in XAddrC, without the law's capitals). The contract of glyph.Upper. Contracts of dec.digits, dec.signed and of the lexer's next and plain. Plain: operations, and which are well formed. No program stands here. -/
import Derived.Test.YtmalncmdfmoccaaGreatDoorCLexP
import Derived.Test.YtmalncmdfmoccaaGreatDoorCMem
import Derived.IntWalk
import Derived.Test.YtmalncmdfmoccaaGreatDoorCAddrP
import Derived.Laws.IdiomStrings
import Derived.Test.YtmalncmdfmoccaaGreatDoorCOk
import Derived.RangeFuncBox
import Derived.RangeFuncNested
import Derived.Lib.Strings
namespace Go.Proofs.YtmalncmdfmoccaaGreatDoor
section
open Go.RowKit
end
section
open Go.RowKit
attribute [local go_sem] Oper.semAt_some
def bytesV (l : List UInt8) : List Value:=l.map fun b => .int .u8 b.toNat
end
section
open Go.RowKit
def Bytes8 (w : World) (b : Nat) (l : List UInt8) : Prop:=∀ j (hj : j < l.length),w.cell? ⟨b,j,none⟩ = some (.int .u8 (l[j].toNat : Int)) ∧ w.frozen? ⟨b,j,none⟩ = false
theorem Bytes8.set_ {w : World} {b : Nat} {l : List UInt8} (h : Bytes8 w b l) (i : Nat) (_hi : i < l.length) (x : UInt8) (v : Int) (hv : v = (x.toNat : Int)) : Bytes8 (w.setCell ⟨b,i,none⟩ (.int .u8 v)) b (l.set i x):=by
  subst hv
  intro j hj
  have hj' : j < l.length:=by simpa using hj
  refine ⟨?_,by rw [World.frozen?_setCell]; exact (h j hj').2⟩
  by_cases e : i = j
  · subst e
    rw [World.cell?_setCell_same' _ _ _ (by rw [(h i hj').1]; rfl)]; simp
  · rw [World.cell?_setCell_other (h:=by intro h; injection h with _ h2 _; exact e h2),(h j hj').1]; simp [e]
theorem Bytes8.made (w : World) (s : ByteArray) (t : TypeId) (cap : Nat) : Bytes8 (w.alloc (.cells (bytesRow s cap) t ((bytesRow s cap).size,(bytesRow s cap).size + 1))) w.heap.size s.data.toList:=by
  intro j hj
  have hj' : j < s.data.size:=by simpa using hj
  have hsz : s.data.size ≤ (bytesRow s cap).size:=by unfold bytesRow; simp
  refine ⟨?_,?_⟩
  · rw [World.cell?_alloc_mark,bytesRow_at s cap j hj']
    simp
  · rw [World.frozen?_alloc_mark]
    simp; omega
theorem addr_add0 (b j : Nat) : (Addr.add ⟨b,0,none⟩ j) = ⟨b,j,none⟩:=by
  unfold Addr.add; split
  · subst_vars; rfl
  · simp
theorem Bytes8.string {P : Program} {w : World} {b : Nat} {l : List UInt8} (h : Bytes8 w b l) (src dst e : TypeId) (hs : P.underlying src = some (.slice e)) (he : P.underlying e = some (.int .u8)) (hd : P.underlying dst = some .string) (cap : Nat) :
    (convert src dst (.slice (some ⟨b,0,none⟩) l.length cap)).run P w = .ok (.string ⟨l.toArray⟩) w :=
  run_convert_bytes_back w src dst e ⟨b,0,none⟩ cap l hs he hd fun j hj => by have:=(h j hj).1; have e : (Addr.add ⟨b,0,none⟩ j) = ⟨b,j,none⟩:=addr_add0 b j; rw [e]; exact this
end
section
open Go.RowKit
end
section
open Go.RowKit
end
end Go.Proofs.YtmalncmdfmoccaaGreatDoor
namespace Go.Proofs.YtmalncmdfmoccaaGreatDoor
open Go.RowKit
def i64B (n : Int) : Prop:=-9223372036854775808 ≤ n ∧ n ≤ 9223372036854775807
structure OpV where
  kind : Nat
  user : Int
  rect : R4
  input : List UInt8
  rd : Nat
  wr : Nat
  ow : Nat
  fns : Nat
  tg : Nat
  idx : Int
deriving DecidableEq
def OpV.zero : OpV:=⟨0,0,R4.zero,[],0,0,0,0,0,0⟩
structure OpV.Ok (x : OpV) : Prop where
  kind : x.kind < 256
  user : i64B x.user
  c1 : i64B x.rect.c1
  r1 : i64B x.rect.r1
  c2 : i64B x.rect.c2
  r2 : i64B x.rect.r2
  rd : x.rd < 18446744073709551616
  wr : x.wr < 18446744073709551616
  ow : x.ow < 18446744073709551616
  fns : x.fns < 256
  tg : x.tg < 18446744073709551616
  idx : i64B x.idx
def OpV.V (x : OpV) : Value:=.agg #[.int .u8 x.kind,.int .i64 x.user,.int .i64 x.rect.c1,.int .i64 x.rect.r1,.int .i64 x.rect.c2,.int .i64 x.rect.r2,.string ⟨x.input.toArray⟩,.int .u64 x.rd,.int .u64 x.wr,.int .u64 x.ow,.int .u8 x.fns,.int .u64 x.tg,.int .i64 x.idx]
def usesR (k : Nat) : Bool:=decide (3 ≤ k) && decide (k ≤ 8)
def plainV (x : OpV) : OpV :=
  if 1 ≤ x.kind ∧ x.kind ≤ 10 then
    ⟨x.kind,x.user,if usesR x.kind = true then x.rect else R4.zero,if x.kind = 3 then x.input else [],if x.kind = 7 then x.rd else 0,if x.kind = 7 then x.wr else 0,if x.kind = 7 then x.ow else 0,if x.kind = 8 then x.fns else 0,if x.kind = 8 then x.tg else 0,if x.kind = 9 then x.idx else 0⟩
  else ⟨x.kind,0,R4.zero,[],0,0,0,0,0,0⟩
def textB (l : List UInt8) : Bool:=decide (l.length ≤ 256) && l.all plainB
def goodO (x : OpV) : Prop:=1 ≤ x.kind ∧ x.kind ≤ 10 ∧ plainV x = x ∧ ((x.kind = 3 ∨ x.kind = 6) → x.rect.c1 = x.rect.c2 ∧ x.rect.r1 = x.rect.r2) ∧ textB x.input = true ∧ (x.kind = 8 → 1 ≤ x.fns ∧ x.fns ≤ 31)
instance (x : OpV) : Decidable (goodO x):=by unfold goodO; exact inferInstance
end Go.Proofs.YtmalncmdfmoccaaGreatDoor
