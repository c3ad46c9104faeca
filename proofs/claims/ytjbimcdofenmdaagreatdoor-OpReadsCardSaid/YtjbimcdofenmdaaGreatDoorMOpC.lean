/- The contract of op.Check. -/
import Derived.Test.YtjbimcdofenmdaaGreatDoorMOpC1
namespace Go.Proofs.YtjbimcdofenmdaaGreatDoor
open Go.RowKit
set_option maxRecDepth 100000 in
set_option maxHeartbeats 4000000 in
theorem op_Check (x : OpV) (w : World) (hs : x.input.length ≤ 4611686018427387904) : Calls Tryz.prog 13 #[x.V] w fun e w' => e = .returned (.int .i64 (checkV x)) ∧ Below w.heap.size w w':=by
 have HP:=fun w => op_Plain x w
 obtain ⟨p,hp⟩ : ∃ p,plainV x = p:=⟨_,rfl⟩
 rw [hp] at HP
 by_cases hk1 : 1 ≤ x.kind
 case neg =>
  have e : checkV x = 4:=by unfold checkV; rw [if_neg (fun h => hk1 h.1)]
  rw [e]
  exact check_lo x.kind (by omega) _ _ _ _ _ _ _ _ _ _ _ _ w
 by_cases hk2 : x.kind ≤ 10
 case neg =>
  have e : checkV x = 4:=by unfold checkV; rw [if_neg (fun h => hk2 h.2.1)]
  rw [e]
  exact check_hi x.kind (by omega) _ _ _ _ _ _ _ _ _ _ _ _ w
 by_cases hx : x = p
 case neg =>
  have e : checkV x = 4:=by unfold checkV; rw [if_neg (fun h => hx (by rw [← hp,h.2.2.1]))]
  rw [e]
  exact check_ne x.kind hk1 hk2 _ _ _ _ _ _ _ _ _ _ _ _ _ _ _ _ _ _ _ _ _ _ _ _ _ HP hx w
 subst hx
 have HB : ∀ h : ¬ goodV x,checkV x = 4:=fun h => by unfold checkV; rw [if_neg h]
 have HG : ∀ h : goodV x,checkV x = 0:=fun h => by unfold checkV; rw [if_pos h]
 have ht0 : textB x.input = true ↔ checkT x.input = 0:=by
  unfold textB checkT
  by_cases h1 : 256 < x.input.length
  ·simp [h1]; omega
  ·cases h2 : x.input.all plainB <;> simp [h1] <;> omega
 have hin : x.kind ≠ 3 → x.input = []:=by
  intro h3
  have:=congrArg OpV.input hp
  unfold plainV at this
  rw [if_pos ⟨hk1,hk2⟩] at this
  simp only [if_neg h3] at this
  exact this.symm
 have hne : x.kind ≠ 3 → textB x.input = true:=fun h => by rw [hin h]; rfl
 unfold goodV at HB HG
 obtain ⟨k,u,⟨x1,y1,x2,y2⟩,inp,a,b,c,f,t,n⟩:=x
 simp only [] at hk1 hk2 hs HB HG ht0 hin hne
 by_cases h3 : k = 3
 ·subst h3
  by_cases h1 : x1 = x2
  case neg => rw [HB (fun h => h1 (h.2.2.2.1 (.inl rfl)).1)]; exact check_3_no1 _ _ _ _ _ _ _ _ _ _ _ _ h1 HP w
  subst h1
  by_cases h1 : y1 = y2
  case neg => rw [HB (fun h => h1 (h.2.2.2.1 (.inl rfl)).2)]; exact check_3_no2 _ _ _ _ _ _ _ _ _ _ _ h1 HP w
  subst h1
  by_cases hc : checkT inp = 0
  ·rw [HG ⟨hk1,hk2,hp,fun _ => ⟨rfl,rfl⟩,ht0.2 hc,fun h => absurd h (by decide)⟩]; exact check_3_ok _ _ _ _ _ _ _ _ _ _ hs hc HP w
  ·rw [HB (fun h => hc (ht0.1 h.2.2.2.2.1))]; exact check_3_bad _ _ _ _ _ _ _ _ _ _ hs hc HP w
 by_cases h6 : k = 6
 ·subst h6
  by_cases h1 : x1 = x2
  case neg => rw [HB (fun h => h1 (h.2.2.2.1 (.inr rfl)).1)]; exact check_6_no1 _ _ _ _ _ _ _ _ _ _ _ _ h1 HP w
  subst h1
  by_cases h1 : y1 = y2
  case neg => rw [HB (fun h => h1 (h.2.2.2.1 (.inr rfl)).2)]; exact check_6_no2 _ _ _ _ _ _ _ _ _ _ _ h1 HP w
  subst h1
  rw [HG ⟨hk1,hk2,hp,fun _ => ⟨rfl,rfl⟩,hne (by decide),fun h => absurd h (by decide)⟩]
  exact check_6_ok _ _ _ _ _ _ _ _ _ _ hs (ht0.1 (hne (by decide))) HP w
 by_cases h8 : k = 8
 ·subst h8
  by_cases h1 : f < 1
  ·rw [HB (fun h => absurd (h.2.2.2.2.2 rfl) (by omega))]; exact check_8_lo _ _ _ _ _ _ _ _ _ _ _ _ h1 HP w
  by_cases h2 : 31 < f
  ·rw [HB (fun h => absurd (h.2.2.2.2.2 rfl) (by omega))]; exact check_8_hi _ _ _ _ _ _ _ _ _ _ _ _ h2 HP w
  rw [HG ⟨hk1,hk2,hp,fun h => (by rcases h with h | h <;> cases h),hne h3,fun _ => ⟨Nat.le_of_not_lt h1,Nat.le_of_not_lt h2⟩⟩]
  exact check_8_yes _ _ _ _ _ _ _ _ _ _ _ _ (Nat.le_of_not_lt h1) (Nat.le_of_not_lt h2) HP w
 rw [HG ⟨hk1,hk2,hp,fun h => (by rcases h with h | h <;> contradiction),hne h3,fun h => absurd h h8⟩]
 exact check_else k hk1 hk2 h3 h6 h8 _ _ _ _ _ _ _ _ _ _ _ _ HP w
end Go.Proofs.YtjbimcdofenmdaaGreatDoor
