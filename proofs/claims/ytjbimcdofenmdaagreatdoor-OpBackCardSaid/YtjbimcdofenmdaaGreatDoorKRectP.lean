/- Plain: ranges, and what package rect's small functions compute. No program stands here but by the name of its kit. -/
import Derived.Test.YtjbimcdofenmdaaGreatDoorKKit
namespace Go.Proofs.YtjbimcdofenmdaaGreatDoor
structure R4 where
  c1 : Int
  r1 : Int
  c2 : Int
  r2 : Int
deriving DecidableEq
def R4.zero : R4:=⟨0,0,0,0⟩
def checkB (r : R4) : Bool:=validN r.c1 r.r1 && validN r.c2 r.r2 && decide (r.c1 ≤ r.c2) && decide (r.r1 ≤ r.r2)
def checkE (r : R4) : Int:=if checkB r = true then 0 else 3
def meetR (a b : R4) : R4:=⟨max a.c1 b.c1,max a.r1 b.r1,min a.c2 b.c2,min a.r2 b.r2⟩
def meets (a b : R4) : Bool:=checkB a && checkB b && checkB (meetR a b)
def meetS (a b : R4) : R4:=if meets a b = true then meetR a b else R4.zero
theorem checkB_iff (r : R4) : checkB r = true ↔ 1 ≤ r.c1 ∧ r.c1 ≤ r.c2 ∧ r.c2 ≤ 1024 ∧ 1 ≤ r.r1 ∧ r.r1 ≤ r.r2 ∧ r.r2 ≤ 1024:=by
  simp only [checkB,validN,Bool.and_eq_true,decide_eq_true_eq]; omega
theorem checkB_no (r : R4) (h : ¬ (1 ≤ r.c1 ∧ r.c1 ≤ r.c2 ∧ r.c2 ≤ 1024 ∧ 1 ≤ r.r1 ∧ r.r1 ≤ r.r2 ∧ r.r2 ≤ 1024)) : checkB r = false:=by
  rw [← Bool.not_eq_true,checkB_iff]; exact h
end Go.Proofs.YtjbimcdofenmdaaGreatDoor
