/- The reference of chapter 29: Check. -/
import Derived.Test.YtjbimcdofenmdaaGreatDoorROrC1
import Derived.Test.YtjbimcdofenmdaaGreatDoorROrC2
import Derived.Test.YtjbimcdofenmdaaGreatDoorMOpC
import Derived.Test.YtjbimcdofenmdaaGreatDoorMOr4
namespace Go.Proofs.YtjbimcdofenmdaaGreatDoor
open Go.RowKit
theorem r9_Check (x : OpV) (w : World) : Calls Tryz.prog 14 #[x.V] w fun e w' => e = .returned (.int .i64 (checkV x)) ∧ Below w.heap.size w w':=by
 have HP:=fun w => r9_Plain x w
 obtain ⟨p,hp⟩ : ∃ p,plainV x = p:=⟨_,rfl⟩
 rw [hp] at HP
 by_cases hk1 : 1 ≤ x.kind
 case neg =>
  rw [show checkV x = 4 by unfold checkV; rw [if_neg (fun h => hk1 h.1)]]
  exact r9_check_lo x.kind (Nat.lt_of_not_le hk1) _ _ _ _ _ _ _ _ _ _ _ _ w
 by_cases hk2 : x.kind ≤ 10
 case neg =>
  rw [show checkV x = 4 by unfold checkV; rw [if_neg (fun h => hk2 h.2.1)]]
  exact r9_check_hi x.kind (Nat.lt_of_not_le hk2) _ _ _ _ _ _ _ _ _ _ _ _ w
 by_cases hpx : p = x
 case neg =>
  rw [show checkV x = 4 by unfold checkV; rw [if_neg (fun h => hpx (hp ▸ h.2.2.1))]]
  exact r9_check_ne x.kind hk1 hk2 _ _ _ _ _ _ _ _ _ _ _ _ _ _ _ _ _ _ _ _ _ _ _ _ _ HP hpx w
 rw [hpx] at HP
 have hpl : plainV x = x:=hp.trans hpx
 clear hp hpx
 obtain ⟨k,u,⟨x1,y1,x2,y2⟩,inp,a,b,c,f,t,n⟩:=x
 dsimp only at hk1 hk2
 obtain ⟨o,ho⟩ : ∃ o,o = ((x1 == x2) && (y1 == y2)):=⟨_,rfl⟩
 have ho1 : o = true → x1 = x2 ∧ y1 = y2:=by intro h; rw [h] at ho; simpa using ho.symm
 have ho2 : o = false → ¬ (x1 = x2 ∧ y1 = y2):=by intro h h2; rw [h,h2.1,h2.2] at ho; simp at ho
 have good : ((k = 3 ∨ k = 6) → o = true) → inp.length ≤ 256 → inp.all plainB = true → (k = 8 → 1 ≤ f ∧ f ≤ 31) → checkV ⟨k,u,⟨x1,y1,x2,y2⟩,inp,a,b,c,f,t,n⟩ = 0:=by
  intro q1 q2 q3 q4
  unfold checkV
  rw [if_pos ⟨hk1,hk2,hpl,fun h => ho1 (q1 h),by unfold textB; rw [decide_eq_true q2,q3]; rfl,q4⟩]
 have bad : ((k = 3 ∨ k = 6) ∧ o = false) ∨ 256 < inp.length ∨ inp.all plainB = false ∨ (k = 8 ∧ ¬ (1 ≤ f ∧ f ≤ 31)) → checkV ⟨k,u,⟨x1,y1,x2,y2⟩,inp,a,b,c,f,t,n⟩ = 4:=by
  intro q
  unfold checkV
  rw [if_neg]
  rintro ⟨-,-,-,g1,g2,g3⟩
  unfold textB at g2
  rw [Bool.and_eq_true,decide_eq_true_eq] at g2
  rcases q with q | q | q | q
  ·exact ho2 q.2 (g1 q.1)
  ·exact absurd g2.1 (Nat.not_le_of_lt q)
  ·rw [q] at g2; exact absurd g2.2 (by decide)
  ·exact q.2 (g3 q.1)
 have text : 256 < inp.length ∨ (inp.length ≤ 256 ∧ inp.all plainB = false) ∨ (inp.length ≤ 256 ∧ inp.all plainB = true):=by
  by_cases h : inp.length ≤ 256
  ·cases hq : inp.all plainB
   ·exact .inr (.inl ⟨h,rfl⟩)
   ·exact .inr (.inr ⟨h,rfl⟩)
  ·exact .inl (Nat.lt_of_not_le h)
 by_cases h3 : k = 3
 ·subst h3
  cases hoo : o
  ·rw [bad (.inl ⟨.inl rfl,hoo⟩)]
   exact r9_check_3_no u x1 y1 x2 y2 inp a b c f t n HP o ho hoo w
  ·rcases text with q | ⟨q1,q2⟩ | ⟨q1,q2⟩
   ·rw [bad (.inr (.inl q))]
    exact r9_check_3_long u x1 y1 x2 y2 inp a b c f t n HP o ho hoo q w
   ·rw [bad (.inr (.inr (.inl q2)))]
    exact r9_check_3_ugly u x1 y1 x2 y2 inp a b c f t n HP o ho hoo q1 q2 w
   ·rw [good (fun _ => hoo) q1 q2 (by omega)]
    exact r9_check_3_ok u x1 y1 x2 y2 inp a b c f t n HP o ho hoo q1 q2 w
 by_cases h6 : k = 6
 ·subst h6
  cases hoo : o
  ·rw [bad (.inl ⟨.inr rfl,hoo⟩)]
   exact r9_check_6_no u x1 y1 x2 y2 inp a b c f t n HP o ho hoo w
  ·rcases text with q | ⟨q1,q2⟩ | ⟨q1,q2⟩
   ·rw [bad (.inr (.inl q))]
    exact r9_check_6_long u x1 y1 x2 y2 inp a b c f t n HP o ho hoo q w
   ·rw [bad (.inr (.inr (.inl q2)))]
    exact r9_check_6_ugly u x1 y1 x2 y2 inp a b c f t n HP o ho hoo q1 q2 w
   ·rw [good (fun _ => hoo) q1 q2 (by omega)]
    exact r9_check_6_ok u x1 y1 x2 y2 inp a b c f t n HP o ho hoo q1 q2 w
 by_cases h8 : k = 8
 ·subst h8
  rcases text with q | ⟨q1,q2⟩ | ⟨q1,q2⟩
  ·rw [bad (.inr (.inl q))]
   exact r9_check_8_long u x1 y1 x2 y2 inp a b c f t n HP o ho q w
  ·rw [bad (.inr (.inr (.inl q2)))]
   exact r9_check_8_ugly u x1 y1 x2 y2 inp a b c f t n HP o ho q1 q2 w
  ·by_cases hf1 : 1 ≤ f
   ·by_cases hf2 : f ≤ 31
    ·rw [good (by omega) q1 q2 (fun _ => ⟨hf1,hf2⟩)]
     exact r9_check_8_fok u x1 y1 x2 y2 inp a b c f t n HP o ho q1 q2 hf1 hf2 w
    ·rw [bad (.inr (.inr (.inr ⟨rfl,fun h => hf2 h.2⟩)))]
     exact r9_check_8_fhi u x1 y1 x2 y2 inp a b c f t n HP o ho q1 q2 (Nat.lt_of_not_le hf2) w
   ·rw [bad (.inr (.inr (.inr ⟨rfl,fun h => hf1 h.1⟩)))]
    exact r9_check_8_flo u x1 y1 x2 y2 inp a b c f t n HP o ho q1 q2 (Nat.lt_of_not_le hf1) w
 rcases text with q | ⟨q1,q2⟩ | ⟨q1,q2⟩
 ·rw [bad (.inr (.inl q))]
  exact r9_check_e_long k hk1 hk2 h3 h6 h8 u x1 y1 x2 y2 inp a b c f t n HP o ho q w
 ·rw [bad (.inr (.inr (.inl q2)))]
  exact r9_check_e_ugly k hk1 hk2 h3 h6 h8 u x1 y1 x2 y2 inp a b c f t n HP o ho q1 q2 w
 ·rw [good (by omega) q1 q2 (by omega)]
  exact r9_check_e_ok k hk1 hk2 h3 h6 h8 u x1 y1 x2 y2 inp a b c f t n HP o ho q1 q2 w
end Go.Proofs.YtjbimcdofenmdaaGreatDoor
