/- The contract of dec.Parse on a run of digits, with at most four places. The contract of the lexer's number. Plain: what dec.Parse makes of any text. No program stands here. -/
import Derived.Test.YtmalncmdfmoccaaGreatDoorBLexC
import Derived.Test.YtmalncmdfmoccaaGreatDoorBLexP
import Derived.Lib.IndexBytes
namespace Go.Proofs.YtmalncmdfmoccaaGreatDoor
open Go.RowKit
def mostN : Nat:=9223372036854775807
end Go.Proofs.YtmalncmdfmoccaaGreatDoor
namespace Go.Proofs.YtmalncmdfmoccaaGreatDoor
open Go.RowKit
def Tk.zero : Tk:=⟨0,0,[],R4.zero,0⟩
def numR (l : List UInt8) (i : Nat) : Option (Tk × Nat):=(numS l).map fun x => (⟨1,x.1,[],R4.zero,i⟩,x.2)
end Go.Proofs.YtmalncmdfmoccaaGreatDoor
namespace Go.Proofs.YtmalncmdfmoccaaGreatDoor
open Go.RowKit
def unsgD (l : List UInt8) : List UInt8:=if l.head? = some 45 then l.tail else l
def plcD : List UInt8 → Option (List UInt8)
  | [] => some []
  | b :: p => if b = 46 ∧ p ≠ [] ∧ p.all isDig = true then some p else none
def zer5 : List UInt8:=[48,48,48,48,48]
def upD (p : List UInt8) : Bool:=decide (53 ≤ ((p ++ zer5).getD 4 0).toNat)
def magD (w p : List UInt8) : Nat:=valD (w ++ (p ++ zer5).take 4) + if upD p then 1 else 0
def parD (l : List UInt8) : Int × Int :=
  if (unsgD l).takeWhile isDig = [] then (0,4) else match plcD ((unsgD l).dropWhile isDig) with
  | none => (0,4)
  | some p => if magD ((unsgD l).takeWhile isDig) p ≤ mostN then ((if l.head? = some 45 then -(magD ((unsgD l).takeWhile isDig) p : Int) else magD ((unsgD l).takeWhile isDig) p),0) else (0,3)
theorem parD_ok {l p : List UInt8} (h0 : (unsgD l).takeWhile isDig ≠ []) (h : plcD ((unsgD l).dropWhile isDig) = some p) :
    parD l = if magD ((unsgD l).takeWhile isDig) p ≤ mostN then ((if l.head? = some 45 then -(magD ((unsgD l).takeWhile isDig) p : Int) else magD ((unsgD l).takeWhile isDig) p),0) else (0,3):=by
  unfold parD
  rw [if_neg h0,h]
end Go.Proofs.YtmalncmdfmoccaaGreatDoor
