/- Plain: ranges, and what package rect's small functions compute. No program stands here but by the name of its kit. -/
import Derived.Test.YtjbimcdofenmdaaGreatDoorValid
namespace Go.Proofs.YtjbimcdofenmdaaGreatDoor
structure R4 where
  c1 : Int
  r1 : Int
  c2 : Int
  r2 : Int
deriving DecidableEq
def R4.zero : R4:=⟨0,0,0,0⟩
def checkB (r : R4) : Bool:=validN r.c1 r.r1 && validN r.c2 r.r2 && decide (r.c1 ≤ r.c2) && decide (r.r1 ≤ r.r2)
def checkE (r : R4) : Int:=if checkB r = true then 0 else 3
theorem checkB_iff (r : R4) : checkB r = true ↔ 1 ≤ r.c1 ∧ r.c1 ≤ r.c2 ∧ r.c2 ≤ 1024 ∧ 1 ≤ r.r1 ∧ r.r1 ≤ r.r2 ∧ r.r2 ≤ 1024:=by
  simp only [checkB,validN,Bool.and_eq_true,decide_eq_true_eq]; omega
end Go.Proofs.YtjbimcdofenmdaaGreatDoor
