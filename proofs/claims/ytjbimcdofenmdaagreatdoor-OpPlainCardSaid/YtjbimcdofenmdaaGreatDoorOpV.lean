/- Plain: operations, and which are well formed. No program stands here. -/
import Derived.Test.YtjbimcdofenmdaaGreatDoorLexP
namespace Go.Proofs.YtjbimcdofenmdaaGreatDoor
open Go.RowKit
def i64B (n : Int) : Prop:=-9223372036854775808 ≤ n ∧ n ≤ 9223372036854775807
structure OpV where
  kind : Nat
  user : Int
  rect : R4
  input : List UInt8
  rd : Nat
  wr : Nat
  ow : Nat
  fns : Nat
  tg : Nat
  idx : Int
deriving DecidableEq
def OpV.zero : OpV:=⟨0,0,R4.zero,[],0,0,0,0,0,0⟩
structure OpV.Ok (x : OpV) : Prop where
  kind : x.kind < 256
  user : i64B x.user
  c1 : i64B x.rect.c1
  r1 : i64B x.rect.r1
  c2 : i64B x.rect.c2
  r2 : i64B x.rect.r2
  rd : x.rd < 18446744073709551616
  wr : x.wr < 18446744073709551616
  ow : x.ow < 18446744073709551616
  fns : x.fns < 256
  tg : x.tg < 18446744073709551616
  idx : i64B x.idx
def OpV.V (x : OpV) : Value:=.agg #[.int .u8 x.kind,.int .i64 x.user,.int .i64 x.rect.c1,.int .i64 x.rect.r1,.int .i64 x.rect.c2,.int .i64 x.rect.r2,.string ⟨x.input.toArray⟩,.int .u64 x.rd,.int .u64 x.wr,.int .u64 x.ow,.int .u8 x.fns,.int .u64 x.tg,.int .i64 x.idx]
def usesR (k : Nat) : Bool:=decide (3 ≤ k) && decide (k ≤ 8)
def plainV (x : OpV) : OpV :=
  if 1 ≤ x.kind ∧ x.kind ≤ 10 then
    ⟨x.kind,x.user,if usesR x.kind = true then x.rect else R4.zero,if x.kind = 3 then x.input else [],if x.kind = 7 then x.rd else 0,if x.kind = 7 then x.wr else 0,if x.kind = 7 then x.ow else 0,if x.kind = 8 then x.fns else 0,if x.kind = 8 then x.tg else 0,if x.kind = 9 then x.idx else 0⟩
  else ⟨x.kind,0,R4.zero,[],0,0,0,0,0,0⟩
def textB (l : List UInt8) : Bool:=decide (l.length ≤ 256) && l.all plainB
def goodV (x : OpV) : Prop:=1 ≤ x.kind ∧ x.kind ≤ 10 ∧ plainV x = x ∧ ((x.kind = 3 ∨ x.kind = 6) → x.rect.c1 = x.rect.c2 ∧ x.rect.r1 = x.rect.r2) ∧ textB x.input = true ∧ (x.kind = 8 → 1 ≤ x.fns ∧ x.fns ≤ 31)
instance (x : OpV) : Decidable (goodV x):=by unfold goodV; exact inferInstance
def checkV (x : OpV) : Int:=if goodV x then 0 else 4
def mutV (k : Nat) : Bool:=k == 3 || k == 4 || k == 7 || k == 8 || k == 9
theorem plain_idem (x : OpV) : plainV (plainV x) = plainV x:=by
  unfold plainV
  by_cases h : 1 ≤ x.kind ∧ x.kind ≤ 10
  · simp only [if_pos h]
    cases usesR x.kind <;> by_cases h3 : x.kind = 3 <;> by_cases h7 : x.kind = 7 <;> by_cases h8 : x.kind = 8 <;> by_cases h9 : x.kind = 9 <;> simp [h3,h7,h8,h9]
  · simp only [if_neg h]
theorem plain_kind (x : OpV) : (plainV x).kind = x.kind:=by unfold plainV; split <;> rfl
end Go.Proofs.YtjbimcdofenmdaaGreatDoor
