/- Trees that were handed in. -/
import Derived.Test.YtnbemkiplnanlaaGreatDoorMGiv
import Derived.Test.YtnbemkiplnanlaaGreatDoorMNdF
namespace Go.Proofs.YtnbemkiplnanlaaGreatDoor
set_option maxRecDepth 100000
open Go.RowKit
theorem fl_u8 : Flat Tryz.prog 5 [.int .u8]:=.int (by kernel_rfl)
theorem fl_i64 : Flat Tryz.prog 2 [.int .i64]:=.int (by kernel_rfl)
theorem fl_int : Flat Tryz.prog 3 [.int .i64]:=.int (by kernel_rfl)
theorem fl_str : Flat Tryz.prog 9 [.str]:=.str (by kernel_rfl)
theorem fl_val : Flat Tryz.prog 35 [.int .u8,.int .i64,.str] :=
 flat_struct [[.int .u8],[.int .i64],[.str]] Tryz.underlying35 ⟨⟨fl_u8,by kernel_rfl⟩,⟨fl_i64,by kernel_rfl⟩,⟨fl_str,by kernel_rfl⟩,trivial⟩ ⟨rfl,rfl,rfl,trivial⟩ (by kernel_rfl)
theorem fl_rect : Flat Tryz.prog 39 [.int .i64,.int .i64,.int .i64,.int .i64] :=
 flat_struct [[.int .i64],[.int .i64],[.int .i64],[.int .i64]] Tryz.underlying39 ⟨⟨fl_int,by kernel_rfl⟩,⟨fl_int,by kernel_rfl⟩,⟨fl_int,by kernel_rfl⟩,⟨fl_int,by kernel_rfl⟩,trivial⟩ ⟨rfl,rfl,rfl,rfl,trivial⟩ (by kernel_rfl)
def nodeL : List Lf:=[.int .u8,.int .u8,.int .i64,.str,.int .i64,.int .i64,.int .i64,.int .i64,.int .i64,.int .u8,.int .i64]
theorem fl_node : Flat Tryz.prog 41 nodeL :=
 flat_struct [[.int .u8],[.int .u8,.int .i64,.str],[.int .i64,.int .i64,.int .i64,.int .i64],[.int .i64],[.int .u8],[.int .i64]] Tryz.underlying41 ⟨⟨fl_u8,by kernel_rfl⟩,⟨fl_val,by kernel_rfl⟩,⟨fl_rect,by kernel_rfl⟩,⟨fl_i64,by kernel_rfl⟩,⟨fl_u8,by kernel_rfl⟩,⟨fl_int,by kernel_rfl⟩,trivial⟩ ⟨rfl,rfl,rfl,rfl,rfl,rfl,trivial⟩ (by kernel_rfl)
structure NdIn (a : NdA) : Prop where
 num : -9223372036854775808 ≤ a.vn ∧ a.vn ≤ 9223372036854775807
 txt : a.vt.length ≤ maxLen
theorem eleven {cs : List Value} (h : cs.length = 11) : ∃ v0 v1 v2 v3 v4 v5 v6 v7 v8 v9 v10,cs = [v0,v1,v2,v3,v4,v5,v6,v7,v8,v9,v10]:=by
 match cs,h with
 | [v0,v1,v2,v3,v4,v5,v6,v7,v8,v9,v10],_ => exact ⟨_,_,_,_,_,_,_,_,_,_,_,rfl⟩
theorem row_node {r : List Value} (h : OkL nodeL r) : ∃ a : NdA,aRow a = r ∧ NdIn a:=by
 obtain ⟨v0,v1,v2,v3,v4,v5,v6,v7,v8,v9,v10,rfl⟩:=eleven (show r.length = 11 from h.len)
 obtain ⟨⟨n0,e0,w0⟩,⟨n1,e1,w1⟩,⟨n2,e2,w2⟩,⟨s,e3,w3⟩,⟨n4,e4,w4⟩,⟨n5,e5,w5⟩,⟨n6,e6,w6⟩,⟨n7,e7,w7⟩,⟨n8,e8,w8⟩,⟨n9,e9,w9⟩,⟨n10,e10,w10⟩,_⟩:=h
 subst e0 e1 e2 e3 e4 e5 e6 e7 e8 e9 e10
 have h0:=wf_u8 w0
 have h1:=wf_u8 w1
 have h9:=wf_u8 w9
 refine ⟨⟨n0.toNat,n1.toNat,n2,s.data.toList,⟨n4,n5,n6,n7⟩,n8,n9.toNat,n10⟩,?_,wf_i64 w2,?_⟩
 ·unfold aRow
  simp only [Int.toNat_of_nonneg h0.1,Int.toNat_of_nonneg h1.1,Int.toNat_of_nonneg h9.1]
 ·show s.data.toList.length ≤ _
  rw [Array.length_toList]
  exact w3
theorem nds_given {H : Type} {enc : TypeId × Value → H} {w : World} {base : Nat} {spare : Nat → Bool} {held : Bool} {fuel : Nat} {A : Option Addr} {n c : Nat} {x : DataW H × List MemPlace}
  (h : DataW.trod enc Tryz.prog w base spare held fuel 22 (Value.slice A n c).cells.toList = some x) : ∃ t : List NdA,t.length = n ∧ RowsAt w A 11 (t.map aRow) ∧ (∀ a ∈ t,NdIn a) ∧ n ≤ c ∧ c ≤ maxLen:=by
 obtain ⟨rows,hl,hr,hok,h1,h2⟩:=rows_given (e:=41) (ls:=nodeL) (by kernel_rfl) fl_node (by kernel_rfl) (by decide) h
 have key : ∀ l : List (List Value),(∀ r ∈ l,OkL nodeL r) → ∃ t : List NdA,t.map aRow = l ∧ ∀ a ∈ t,NdIn a:=by
  intro l
  induction l with
  | nil => intro _; exact ⟨[],rfl,fun a ha => (by cases ha)⟩
  | cons r l ih =>
   intro hl
   obtain ⟨a,ha,hin⟩:=row_node (hl r (by simp))
   obtain ⟨t,ht,hti⟩:=ih fun r hr => hl r (by simp [hr])
   refine ⟨a :: t,by rw [List.map_cons,ha,ht],fun b hb => ?_⟩
   rcases List.mem_cons.1 hb with rfl | hb
   ·exact hin
   ·exact hti b hb
 obtain ⟨t,ht,hti⟩:=key rows hok
 refine ⟨t,by rw [← hl,← ht,List.length_map],by rw [ht]; exact hr,hti,h1,h2⟩
end Go.Proofs.YtnbemkiplnanlaaGreatDoor
