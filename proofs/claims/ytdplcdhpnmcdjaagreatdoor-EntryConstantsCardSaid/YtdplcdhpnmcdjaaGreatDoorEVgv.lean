/- Trees that were handed in. A value that was handed in. -/
import Derived.Test.YtdplcdhpnmcdjaaGreatDoorERvk
import Derived.Test.YtdplcdhpnmcdjaaGreatDoorENdF
import Derived.OpenShut
import Derived.Lib.SmallJoins
namespace Go.Proofs.YtdplcdhpnmcdjaaGreatDoor
open Go.RowKit Go.Proofs.Tryz
theorem xZ:Flat prog 5 [.int .u8]:=.int (by kernel_rfl)
theorem wt:Flat prog 2 [.int .i64]:=.int (by kernel_rfl)
theorem wu:Flat prog 9 [.str]:=.str (by kernel_rfl)
theorem ww:Flat prog 35 [.int .u8,.int .i64,.str] :=
 ma [[.int .u8],[.int .i64],[.str]] underlying35 ⟨⟨xZ,by kernel_rfl⟩,⟨wt,by kernel_rfl⟩,⟨wu,by kernel_rfl⟩,trivial⟩ ⟨rfl,rfl,rfl,trivial⟩ (by kernel_rfl)
structure zr (a:NdA):Prop where
 num : -9223372036854775808≤a.vn∧a.vn≤9223372036854775807
 txt:a.vt.length≤maxLen
 fnb:a.fn≤255
set_option maxRecDepth 100000
open Go.RowKit Go.ChangeShapes Go.WideShapes Go.ChangeAt
theorem xk {cs:List Value} (h:cs.length=3):∃ v0 v1 v2,cs=[v0,v1,v2]:=by
 match cs,h with
 | [v0,v1,v2],_=>exact ⟨_,_,_,rfl⟩
theorem qK {H:Type} {enc:TypeId×Value→H} {w:World} {base:Nat} {spare:Nat→Bool} {held:Bool} {r:Reach} {b0:Nat} {v:Value} {d:DataW H} {p:List MemPlace}
  (hv:Value.okWide Tryz.prog w r b0 35 v) (h:DataW.Trod enc Tryz.prog w base spare held 35 v d p):∃ (k:Nat) (n:Int) (s:ByteArray),v=.agg #[.int .u8 (k:Nat),.int .i64 n,.string s]∧-9223372036854775808≤n∧n≤9223372036854775807:=by
 obtain ⟨cs,rfl,-⟩:=okWide_struct Tryz.underlying35 hv
 obtain ⟨fuel,ht⟩:=h
 have hok:OkL [.int .u8,.int .i64,.str] cs.toList:=p5 ww ht
 obtain ⟨l⟩:=cs
 obtain ⟨v0,v1,v2,rfl⟩:=xk (show l.length=3 from hok.len)
 obtain ⟨⟨n0,rfl,w0⟩,⟨n1,rfl,w1⟩,⟨s,rfl,-⟩,-⟩:=hok
 have h0:=wf_u8 w0
 have h1:=wf_i64 w1
 exact ⟨n0.toNat,n1,s,by rw [Int.toNat_of_nonneg h0.1],h1.1,h1.2⟩
