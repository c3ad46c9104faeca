/- Contracts of op.Plain and words. -/
import Derived.Test.YtjbimcdofenmdaaGreatDoorMOpB1
import Derived.Test.YtjbimcdofenmdaaGreatDoorMOpB2
namespace Go.Proofs.YtjbimcdofenmdaaGreatDoor
open Go.RowKit
set_option maxRecDepth 100000 in
set_option maxHeartbeats 4000000 in
theorem op_Plain (x : OpV) (w : World) : Calls Tryz.prog 17 #[x.V] w fun e w' => e = .returned (plainV x).V ∧ Below w.heap.size w w':=by
 obtain ⟨k,u,⟨x1,y1,x2,y2⟩,inp,a,b,c,f,t,n⟩:=x
 by_cases hk : 1 ≤ k ∧ k ≤ 10
 ·have h : k = 1 ∨ k = 2 ∨ k = 3 ∨ k = 4 ∨ k = 5 ∨ k = 6 ∨ k = 7 ∨ k = 8 ∨ k = 9 ∨ k = 10:=by omega
  clear hk
  rcases h with rfl | rfl | rfl | rfl | rfl | rfl | rfl | rfl | rfl | rfl
  ·exact plain_1 u x1 y1 x2 y2 inp a b c f t n w
  ·exact plain_2 u x1 y1 x2 y2 inp a b c f t n w
  ·exact plain_3 u x1 y1 x2 y2 inp a b c f t n w
  ·exact plain_4 u x1 y1 x2 y2 inp a b c f t n w
  ·exact plain_5 u x1 y1 x2 y2 inp a b c f t n w
  ·exact plain_6 u x1 y1 x2 y2 inp a b c f t n w
  ·exact plain_7 u x1 y1 x2 y2 inp a b c f t n w
  ·exact plain_8 u x1 y1 x2 y2 inp a b c f t n w
  ·exact plain_9 u x1 y1 x2 y2 inp a b c f t n w
  ·exact plain_10 u x1 y1 x2 y2 inp a b c f t n w
 ·have h:=plain_no k hk u x1 y1 x2 y2 inp a b c f t n w
  unfold plainV
  rw [if_neg hk]
  exact h
set_option maxRecDepth 100000 in
set_option maxHeartbeats 4000000 in
theorem op_Target (x : OpV) (w : World) : Calls Tryz.prog 9 #[x.V] w fun e w' => e = .returned (.tuple #[.agg #[.int .i64 (if usesR x.kind = true then x.rect else R4.zero).c1,.int .i64 (if usesR x.kind = true then x.rect else R4.zero).r1,.int .i64 (if usesR x.kind = true then x.rect else R4.zero).c2,.int .i64 (if usesR x.kind = true then x.rect else R4.zero).r2],.bool (usesR x.kind)]) ∧ Below w.heap.size w w':=by
 obtain ⟨k,u,⟨x1,y1,x2,y2⟩,inp,a,b,c,f,t,n⟩:=x
 by_cases hk : 3 ≤ k ∧ k ≤ 8
 ·have h : k = 3 ∨ k = 4 ∨ k = 5 ∨ k = 6 ∨ k = 7 ∨ k = 8:=by omega
  clear hk
  rcases h with rfl | rfl | rfl | rfl | rfl | rfl
  ·exact target_3 u x1 y1 x2 y2 inp a b c f t n w
  ·exact target_4 u x1 y1 x2 y2 inp a b c f t n w
  ·exact target_5 u x1 y1 x2 y2 inp a b c f t n w
  ·exact target_6 u x1 y1 x2 y2 inp a b c f t n w
  ·exact target_7 u x1 y1 x2 y2 inp a b c f t n w
  ·exact target_8 u x1 y1 x2 y2 inp a b c f t n w
 ·have h:=target_no k hk u x1 y1 x2 y2 inp a b c f t n w
  have e : usesR k = false:=by unfold usesR; simp; omega
  dsimp only
  simp only [e]
  exact h
theorem op_Mutates (x : OpV) (w : World) : Calls Tryz.prog 15 #[x.V] w fun e w' => e = .returned (.bool (mutV x.kind)) ∧ Below w.heap.size w w':=by
 obtain ⟨k,u,⟨x1,y1,x2,y2⟩,inp,a,b,c,f,t,n⟩:=x
 cases hk : mutV k
 ·have h:=mutates_no k hk u x1 y1 x2 y2 inp a b c f t n w
  exact h
 ·have h : k = 3 ∨ k = 4 ∨ k = 7 ∨ k = 8 ∨ k = 9:=by
   unfold mutV at hk
   simp only [Bool.or_eq_true,beq_iff_eq] at hk
   omega
  clear hk
  rcases h with rfl | rfl | rfl | rfl | rfl
  ·exact mutates_3 u x1 y1 x2 y2 inp a b c f t n w
  ·exact mutates_4 u x1 y1 x2 y2 inp a b c f t n w
  ·exact mutates_7 u x1 y1 x2 y2 inp a b c f t n w
  ·exact mutates_8 u x1 y1 x2 y2 inp a b c f t n w
  ·exact mutates_9 u x1 y1 x2 y2 inp a b c f t n w
def wordsA : List Value:=[.string ⟨#[]⟩,.string ⟨#[108,111,103,105,110]⟩,.string ⟨#[108,111,103,111,117,116]⟩,.string ⟨#[115,101,116]⟩,.string ⟨#[99,108,101,97,114]⟩,.string ⟨#[114,101,97,100]⟩,.string ⟨#[102,111,114,109,117,108,97]⟩,.string ⟨#[114,117,108,101]⟩,.string ⟨#[103,114,97,110,116]⟩,.string ⟨#[114,101,118,111,107,101]⟩,.string ⟨#[97,117,100,105,116]⟩]
set_option maxRecDepth 100000 in
set_option maxHeartbeats 4000000 in
theorem op_words  (w : World) :
  Calls Tryz.prog 23 #[] w fun e w' => e = .returned (.agg wordsA.toArray) ∧ Below w.heap.size w w':=by
 have H1:=Lib.hid ((Ok.start w).var w.heap.size 48 [.string ⟨#[]⟩,.string ⟨#[108,111,103,105,110]⟩,.string ⟨#[108,111,103,111,117,116]⟩,.string ⟨#[115,101,116]⟩,.string ⟨#[99,108,101,97,114]⟩,.string ⟨#[114,101,97,100]⟩,.string ⟨#[102,111,114,109,117,108,97]⟩,.string ⟨#[114,117,108,101]⟩,.string ⟨#[103,114,97,110,116]⟩,.string ⟨#[114,101,118,111,107,101]⟩,.string ⟨#[97,117,100,105,116]⟩] rfl)
 go_enter Tryz.func23,Tryz.ntmps23
 go_wp2_with fail
 generalize (w.alloc (.cells #[.string ⟨#[]⟩,.string ⟨#[108,111,103,105,110]⟩,.string ⟨#[108,111,103,111,117,116]⟩,.string ⟨#[115,101,116]⟩,.string ⟨#[99,108,101,97,114]⟩,.string ⟨#[114,101,97,100]⟩,.string ⟨#[102,111,114,109,117,108,97]⟩,.string ⟨#[114,117,108,101]⟩,.string ⟨#[103,114,97,110,116]⟩,.string ⟨#[114,101,118,111,107,101]⟩,.string ⟨#[97,117,100,105,116]⟩] 48)) = W2 at H1 ⊢
 have F:=H1.out.sees
 simp only [sees,kVar,cellsAt,Nat.reduceAdd] at F
 obtain ⟨⟨⟨z0,f0⟩,d0,d1,d2,d3,d4,d5,d6,d7,d8,d9,d10,-⟩,-⟩:=F
 exact bodyPost_ret (v:=.agg wordsA.toArray) (by simp [results,Tryz.results23,go_sem,wordsA,d0,d1,d2,d3,d4,d5,d6,d7,d8,d9,d10]) rfl ⟨rfl,H1.out.bel⟩
end Go.Proofs.YtjbimcdofenmdaaGreatDoor
