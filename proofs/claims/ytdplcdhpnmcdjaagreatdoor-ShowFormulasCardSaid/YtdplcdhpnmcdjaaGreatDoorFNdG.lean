/- Trees that were handed in. -/
import Derived.Test.YtdplcdhpnmcdjaaGreatDoorFGiv
import Derived.Test.YtdplcdhpnmcdjaaGreatDoorFNdF
namespace Go.Proofs.YtdplcdhpnmcdjaaGreatDoor
set_option maxRecDepth 100000
open Go.RowKit Go.Proofs.Tryz
theorem ux:Flat prog 5 [.int .u8]:=.int (by kernel_rfl)
theorem uw:Flat prog 2 [.int .i64]:=.int (by kernel_rfl)
theorem lm:Flat prog 3 [.int .i64]:=.int (by kernel_rfl)
theorem Ah:Flat prog 9 [.str]:=.str (by kernel_rfl)
theorem Ai:Flat prog 35 [.int .u8,.int .i64,.str] :=
 gy [[.int .u8],[.int .i64],[.str]] underlying35 ⟨⟨ux,by kernel_rfl⟩,⟨uw,by kernel_rfl⟩,⟨Ah,by kernel_rfl⟩,trivial⟩ ⟨rfl,rfl,rfl,trivial⟩ (by kernel_rfl)
theorem xl:Flat prog 37 [.int .i64,.int .i64,.int .i64,.int .i64] :=
 gy [[.int .i64],[.int .i64],[.int .i64],[.int .i64]] underlying37 ⟨⟨lm,by kernel_rfl⟩,⟨lm,by kernel_rfl⟩,⟨lm,by kernel_rfl⟩,⟨lm,by kernel_rfl⟩,trivial⟩ ⟨rfl,rfl,rfl,rfl,trivial⟩ (by kernel_rfl)
def rH:List Lf:=[.int .u8,.int .u8,.int .i64,.str,.int .i64,.int .i64,.int .i64,.int .i64,.int .i64,.int .u8,.int .i64]
theorem xj:Flat prog 39 rH :=
 gy [[.int .u8],[.int .u8,.int .i64,.str],[.int .i64,.int .i64,.int .i64,.int .i64],[.int .i64],[.int .u8],[.int .i64]] underlying39 ⟨⟨ux,by kernel_rfl⟩,⟨Ai,by kernel_rfl⟩,⟨xl,by kernel_rfl⟩,⟨uw,by kernel_rfl⟩,⟨ux,by kernel_rfl⟩,⟨lm,by kernel_rfl⟩,trivial⟩ ⟨rfl,rfl,rfl,rfl,rfl,rfl,trivial⟩ (by kernel_rfl)
structure mQ (a:NdA):Prop where
 num : -9223372036854775808≤a.vn∧a.vn≤9223372036854775807
 txt:a.vt.length≤maxLen
 fnb:a.fn≤255
theorem zG {cs:List Value} (h:cs.length=11):∃ v0 v1 v2 v3 v4 v5 v6 v7 v8 v9 v10,cs=[v0,v1,v2,v3,v4,v5,v6,v7,v8,v9,v10]:=by
 match cs,h with
 | [v0,v1,v2,v3,v4,v5,v6,v7,v8,v9,v10],_=>exact ⟨_,_,_,_,_,_,_,_,_,_,_,rfl⟩
theorem vF {r:List Value} (h:OkL rH r):∃ a:NdA,bd a=r∧mQ a:=by
 obtain ⟨v0,v1,v2,v3,v4,v5,v6,v7,v8,v9,v10,rfl⟩:=zG (show r.length=11 from h.len)
 obtain ⟨⟨n0,e0,w0⟩,⟨n1,e1,w1⟩,⟨n2,e2,w2⟩,⟨s,e3,w3⟩,⟨n4,e4,w4⟩,⟨n5,e5,w5⟩,⟨n6,e6,w6⟩,⟨n7,e7,w7⟩,⟨n8,e8,w8⟩,⟨n9,e9,w9⟩,⟨n10,e10,w10⟩,_⟩:=h
 subst e0 e1 e2 e3 e4 e5 e6 e7 e8 e9 e10
 have h0:=wf_u8 w0
 have h1:=wf_u8 w1
 have h9:=wf_u8 w9
 refine ⟨⟨n0.toNat,n1.toNat,n2,s.data.toList,⟨n4,n5,n6,n7⟩,n8,n9.toNat,n10⟩,?_,wf_i64 w2,?_,by show n9.toNat≤255; omega⟩
 ·unfold bd
  simp only [Int.toNat_of_nonneg h0.1,Int.toNat_of_nonneg h1.1,Int.toNat_of_nonneg h9.1]
 show s.data.toList.length≤_
 rw [Array.length_toList]
 exact w3
theorem sV {H:Type} {enc:TypeId×Value→H} {w:World} {base:Nat} {spare:Nat→Bool} {held:Bool} {fuel:Nat} {A:Option Addr} {n c:Nat} {x:DataW H×List MemPlace}
  (h:DataW.trod enc prog w base spare held fuel 22 (Value.slice A n c).cells.toList=some x):∃ t:List NdA,t.length=n∧ap w A 11 (t.map bd)∧(∀ a∈t,mQ a)∧n≤c∧c≤maxLen:=by
 obtain ⟨rows,hl,hr,hok,h1,h2⟩:=qL (e:=39) (ls:=rH) (by kernel_rfl) xj (by kernel_rfl) (by decide) h
 have key:∀ l:List (List Value),(∀ r∈l,OkL rH r)→∃ t:List NdA,t.map bd=l∧∀ a∈t,mQ a:=by
  intro l
  induction l with
  | nil=>intro _; exact ⟨[],rfl,fun a ha=>(by cases ha)⟩
  | cons r l ih =>
   intro hl
   obtain ⟨a,ha,hin⟩:=vF (hl r (by simp))
   obtain ⟨t,ht,hti⟩:=ih fun r hr=>hl r (by simp [hr])
   refine ⟨a::t,by rw [List.map_cons,ha,ht],fun b hb => ?_⟩
   rcases List.mem_cons.1 hb with rfl | hb
   ·exact hin
   exact hti b hb
 obtain ⟨t,ht,hti⟩:=key rows hok
 refine ⟨t,by rw [← hl,← ht,List.length_map],by rw [ht]; exact hr,hti,h1,h2⟩
