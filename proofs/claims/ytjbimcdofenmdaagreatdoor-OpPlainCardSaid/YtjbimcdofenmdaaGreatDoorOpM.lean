/- The walk of the law OpPlain. -/
import Derived.Test.YtjbimcdofenmdaaGreatDoorOpM1
import Derived.Test.YtjbimcdofenmdaaGreatDoorOpM2
import Derived.Test.YtjbimcdofenmdaaGreatDoorOpM3
import Derived.Test.YtjbimcdofenmdaaGreatDoorOpM4
namespace Go.Proofs.YtjbimcdofenmdaaGreatDoor
open Go.RowKit
set_option maxRecDepth 100000 in
set_option maxHeartbeats 4000000 in
theorem law_OpPlain (x : OpV) (w : World) (he : Env6 w) :
    Calls Tryz.prog 7 #[x.V] w fun e w' => e = .returned (.bool true) ∧ Below w.heap.size w w':=by
  by_cases hi : x.input.length ≤ 600
  case neg => exact plain_long _ _ _ _ _ _ _ _ _ _ _ _ _ (Nat.lt_of_not_le hi) w he
  have h62 : x.input.length ≤ 4611686018427387904:=Nat.le_trans hi (by decide)
  have hPl:=fun w => op_Plain x w
  have hPp:=fun w => op_Plain (plainV x) w
  rw [plain_idem] at hPp
  have hT:=fun w => op_Target x w
  have hTp:=fun w => op_Target (plainV x) w
  have hM:=fun w => op_Mutates x w
  have hMp:=fun w => op_Mutates (plainV x) w
  have hC:=fun w => op_Check x w h62
  have hk:=plain_kind x
  have hr : usesR x.kind = true → (plainV x).rect = x.rect:=by
    intro hu
    have hk : 1 ≤ x.kind ∧ x.kind ≤ 10:=by unfold usesR at hu; simp at hu; omega
    unfold plainV
    rw [if_pos hk]
    simp only [hu,if_true]
  rw [hk] at hTp hMp
  have g1 : mutV x.kind = true → ¬ (x.kind : Int) < 1:=by unfold mutV; simp; omega
  have g2 : mutV x.kind = true → ¬ (x.kind : Int) > 10:=by unfold mutV; simp; omega
  have g3 : mutV x.kind = true → usesR x.kind = false → ((x.kind : Int) != 9) = false:=by unfold mutV usesR; simp; omega
  unfold checkV at hC
  cases hu : usesR x.kind <;> cases hm : mutV x.kind <;> simp only [hu,hm,Bool.false_eq_true,if_true,if_false] at hT hTp hM hMp
  · by_cases hg : goodV x
    · rw [if_pos hg] at hC
      rw [hg.2.2.1] at hPl
      exact plain_core_100 _ _ _ _ _ _ _ _ _ _ _ _ _ hi hPl hT hM hC w he
    · rw [if_neg hg] at hC
      obtain ⟨p,hp⟩ : ∃ p,plainV x = p:=⟨_,rfl⟩
      rw [hp] at hPl hPp hTp hMp hk
      obtain ⟨pk,pu,⟨px1,py1,px2,py2⟩,pinp,pa,pb,pc,pf,pt,pn⟩:=p
      obtain rfl : pk = x.kind:=hk
      exact plain_core_000 _ _ _ _ _ _ _ _ _ _ _ _ _ _ _ _ _ _ _ _ _ _ _ _ _ hi hPl hPp hT hTp hM hMp hC w he
  · by_cases hg : goodV x
    · rw [if_pos hg] at hC
      rw [hg.2.2.1] at hPl
      exact plain_core_101 _ _ _ _ _ _ _ _ _ _ _ _ _ hi (g1 hm) (g2 hm) (g3 hm hu) hPl hT hM hC w he
    · rw [if_neg hg] at hC
      obtain ⟨p,hp⟩ : ∃ p,plainV x = p:=⟨_,rfl⟩
      rw [hp] at hPl hPp hTp hMp hk
      obtain ⟨pk,pu,⟨px1,py1,px2,py2⟩,pinp,pa,pb,pc,pf,pt,pn⟩:=p
      obtain rfl : pk = x.kind:=hk
      exact plain_core_001 _ _ _ _ _ _ _ _ _ _ _ _ _ _ _ _ _ _ _ _ _ _ _ _ _ hi (g1 hm) (g2 hm) (g3 hm hu) hPl hPp hT hTp hM hMp hC w he
  · by_cases hg : goodV x
    · rw [if_pos hg] at hC
      rw [hg.2.2.1] at hPl
      exact plain_core_110 _ _ _ _ _ _ _ _ _ _ _ _ _ hi hPl hT hM hC w he
    · rw [if_neg hg] at hC
      rw [hr hu] at hTp
      obtain ⟨p,hp⟩ : ∃ p,plainV x = p:=⟨_,rfl⟩
      rw [hp] at hPl hPp hTp hMp hk
      obtain ⟨pk,pu,⟨px1,py1,px2,py2⟩,pinp,pa,pb,pc,pf,pt,pn⟩:=p
      obtain rfl : pk = x.kind:=hk
      exact plain_core_010 _ _ _ _ _ _ _ _ _ _ _ _ _ _ _ _ _ _ _ _ _ _ _ _ _ hi hPl hPp hT hTp hM hMp hC w he
  · by_cases hg : goodV x
    · rw [if_pos hg] at hC
      rw [hg.2.2.1] at hPl
      exact plain_core_111 _ _ _ _ _ _ _ _ _ _ _ _ _ hi (g1 hm) (g2 hm) hPl hT hM hC w he
    · rw [if_neg hg] at hC
      rw [hr hu] at hTp
      obtain ⟨p,hp⟩ : ∃ p,plainV x = p:=⟨_,rfl⟩
      rw [hp] at hPl hPp hTp hMp hk
      obtain ⟨pk,pu,⟨px1,py1,px2,py2⟩,pinp,pa,pb,pc,pf,pt,pn⟩:=p
      obtain rfl : pk = x.kind:=hk
      exact plain_core_011 _ _ _ _ _ _ _ _ _ _ _ _ _ _ _ _ _ _ _ _ _ _ _ _ _ hi (g1 hm) (g2 hm) hPl hPp hT hTp hM hMp hC w he
end Go.Proofs.YtjbimcdofenmdaaGreatDoor
