/- The contract of op.Check. The contract of the reference's Valid. Contracts of package rect's corners, Check, and of their references. -/
import Derived.Test.YtjbimcdofenmdaaGreatDoorKOpC1
import Derived.Test.YtjbimcdofenmdaaGreatDoorKKit
import Derived.Test.YtjbimcdofenmdaaGreatDoorKRectP
namespace Go.Proofs.YtjbimcdofenmdaaGreatDoor
open Go.RowKit
set_option maxRecDepth 100000 in
set_option maxHeartbeats 4000000 in
theorem op_Check (x : OpV) (w : World) (hs : x.input.length ≤ 4611686018427387904) : Calls Tryz.prog 13 #[x.V] w fun e w' => e = .returned (.int .i64 (checkV x)) ∧ Below w.heap.size w w':=by
  have HP:=fun w => op_Plain x w
  obtain ⟨p,hp⟩ : ∃ p,plainV x = p:=⟨_,rfl⟩
  rw [hp] at HP
  by_cases hk1 : 1 ≤ x.kind
  case neg =>
    have e : checkV x = 4:=by unfold checkV; rw [if_neg (fun h => hk1 h.1)]
    rw [e]
    exact check_lo x.kind (by omega) _ _ _ _ _ _ _ _ _ _ _ _ w
  by_cases hk2 : x.kind ≤ 10
  case neg =>
    have e : checkV x = 4:=by unfold checkV; rw [if_neg (fun h => hk2 h.2.1)]
    rw [e]
    exact check_hi x.kind (by omega) _ _ _ _ _ _ _ _ _ _ _ _ w
  by_cases hx : x = p
  case neg =>
    have e : checkV x = 4:=by unfold checkV; rw [if_neg (fun h => hx (by rw [← hp,h.2.2.1]))]
    rw [e]
    exact check_ne x.kind hk1 hk2 _ _ _ _ _ _ _ _ _ _ _ _ _ _ _ _ _ _ _ _ _ _ _ _ _ HP hx w
  subst hx
  have HB : ∀ h : ¬ goodV x,checkV x = 4:=fun h => by unfold checkV; rw [if_neg h]
  have HG : ∀ h : goodV x,checkV x = 0:=fun h => by unfold checkV; rw [if_pos h]
  have ht0 : textB x.input = true ↔ checkT x.input = 0:=by
    unfold textB checkT
    by_cases h1 : 256 < x.input.length
    · simp [h1]; omega
    · cases h2 : x.input.all plainB <;> simp [h1] <;> omega
  have hin : x.kind ≠ 3 → x.input = []:=by
    intro h3
    have:=congrArg OpV.input hp
    unfold plainV at this
    rw [if_pos ⟨hk1,hk2⟩] at this
    simp only [if_neg h3] at this
    exact this.symm
  have hne : x.kind ≠ 3 → textB x.input = true:=fun h => by rw [hin h]; rfl
  unfold goodV at HB HG
  obtain ⟨k,u,⟨x1,y1,x2,y2⟩,inp,a,b,c,f,t,n⟩:=x
  simp only [] at hk1 hk2 hs HB HG ht0 hin hne
  by_cases h3 : k = 3
  · subst h3
    by_cases h1 : x1 = x2
    case neg => rw [HB (fun h => h1 (h.2.2.2.1 (.inl rfl)).1)]; exact check_3_no1 _ _ _ _ _ _ _ _ _ _ _ _ h1 HP w
    subst h1
    by_cases h1 : y1 = y2
    case neg => rw [HB (fun h => h1 (h.2.2.2.1 (.inl rfl)).2)]; exact check_3_no2 _ _ _ _ _ _ _ _ _ _ _ h1 HP w
    subst h1
    by_cases hc : checkT inp = 0
    · rw [HG ⟨hk1,hk2,hp,fun _ => ⟨rfl,rfl⟩,ht0.2 hc,fun h => absurd h (by decide)⟩]; exact check_3_ok _ _ _ _ _ _ _ _ _ _ hs hc HP w
    · rw [HB (fun h => hc (ht0.1 h.2.2.2.2.1))]; exact check_3_bad _ _ _ _ _ _ _ _ _ _ hs hc HP w
  by_cases h6 : k = 6
  · subst h6
    by_cases h1 : x1 = x2
    case neg => rw [HB (fun h => h1 (h.2.2.2.1 (.inr rfl)).1)]; exact check_6_no1 _ _ _ _ _ _ _ _ _ _ _ _ h1 HP w
    subst h1
    by_cases h1 : y1 = y2
    case neg => rw [HB (fun h => h1 (h.2.2.2.1 (.inr rfl)).2)]; exact check_6_no2 _ _ _ _ _ _ _ _ _ _ _ h1 HP w
    subst h1
    rw [HG ⟨hk1,hk2,hp,fun _ => ⟨rfl,rfl⟩,hne (by decide),fun h => absurd h (by decide)⟩]
    exact check_6_ok _ _ _ _ _ _ _ _ _ _ hs (ht0.1 (hne (by decide))) HP w
  by_cases h8 : k = 8
  · subst h8
    by_cases h1 : f < 1
    · rw [HB (fun h => absurd (h.2.2.2.2.2 rfl) (by omega))]; exact check_8_lo _ _ _ _ _ _ _ _ _ _ _ _ h1 HP w
    by_cases h2 : 31 < f
    · rw [HB (fun h => absurd (h.2.2.2.2.2 rfl) (by omega))]; exact check_8_hi _ _ _ _ _ _ _ _ _ _ _ _ h2 HP w
    rw [HG ⟨hk1,hk2,hp,fun h => (by rcases h with h | h <;> cases h),hne h3,fun _ => ⟨Nat.le_of_not_lt h1,Nat.le_of_not_lt h2⟩⟩]
    exact check_8_yes _ _ _ _ _ _ _ _ _ _ _ _ (Nat.le_of_not_lt h1) (Nat.le_of_not_lt h2) HP w
  rw [HG ⟨hk1,hk2,hp,fun h => (by rcases h with h | h <;> contradiction),hne h3,fun h => absurd h h8⟩]
  exact check_else k hk1 hk2 h3 h6 h8 _ _ _ _ _ _ _ _ _ _ _ _ HP w
end Go.Proofs.YtjbimcdofenmdaaGreatDoor
namespace Go.Proofs.YtjbimcdofenmdaaGreatDoor
open Go.RowKit
theorem ref_Valid (c r : Int) (w : World) :
    Calls Tryz.prog 105 #[.agg #[.int .i64 c,.int .i64 r]] w fun e w' => e = .returned (.bool (validN c r)) ∧ Below w.heap.size w w':=by
  apply validN_cases c r <;> intros
  all_goals
    go_enter Tryz.func105,Tryz.ntmps105
    go_wp2
    go_ret
    exact ⟨by simp only [Array.getD_eq_getD_getElem?]; simp [validN]; try omega,(Below.refl _ _).alloc (Nat.le_refl _) _⟩
end Go.Proofs.YtjbimcdofenmdaaGreatDoor
namespace Go.Proofs.YtjbimcdofenmdaaGreatDoor
open Go.RowKit
theorem rect_corners (c1 r1 c2 r2 : Int) (w : World) :
    Calls Tryz.prog 71 #[.agg #[.int .i64 c1,.int .i64 r1,.int .i64 c2,.int .i64 r2]] w fun e w' => e = .returned (.tuple #[.agg #[.int .i64 c1,.int .i64 r1],.agg #[.int .i64 c2,.int .i64 r2]]) ∧ Below w.heap.size w w':=by
  go_enter Tryz.func71,Tryz.ntmps71
  go_wp2
  go_region
  go_wp2
  refine bodyPost_ret (v:=.tuple #[.agg #[.int .i64 c1,.int .i64 r1],.agg #[.int .i64 c2,.int .i64 r2]]) (by simp [results,Tryz.results71,go_sem]) rfl ⟨rfl,?_⟩
  exact ((((Below.refl _ _).alloc (Nat.le_refl _) _).alloc (by simp) _).alloc (by simp; omega) _).drew
theorem checkE_yes {r : R4} (h : checkB r = true) : checkE r = 0:=by unfold checkE; rw [if_pos h]
theorem checkE_no {r : R4} (h : checkB r = false) : checkE r = 3:=by unfold checkE; rw [if_neg (by simp [h])]
set_option maxHeartbeats 2000000 in
theorem rect_Check (c1 r1 c2 r2 : Int) (w : World) :
    Calls Tryz.prog 70 #[.agg #[.int .i64 c1,.int .i64 r1,.int .i64 c2,.int .i64 r2]] w fun e w' => e = .returned (.int .i64 (checkE ⟨c1,r1,c2,r2⟩)) ∧ Below w.heap.size w w':=by
  go_enter Tryz.func70,Tryz.ntmps70
  go_wp2_with fail
  have k0:=Blk.new w 23 #[.int .i64 c1,.int .i64 r1,.int .i64 c2,.int .i64 r2]
  refine (rect_corners _ _ _ _ _).mono ?_
  rintro e w1 ⟨rfl,hb1⟩
  have hz1 : w.heap.size < w1.heap.size:=by have:=hb1.size; simp at this; omega
  have HB1:=Lib.hid (((Below.refl w.heap.size w).alloc (Nat.le_refl _) (.cells #[.int .i64 c1,.int .i64 r1,.int .i64 c2,.int .i64 r2] 23)).trans (hb1.mono (by simp)))
  have k1:=((k0.below hb1 (by simp)).alloc (.cells #[.int .i64 c1,.int .i64 r1] 100)).alloc (.cells #[.int .i64 c2,.int .i64 r2] 100)
  have ka:=(Blk.new w1 100 #[.int .i64 c1,.int .i64 r1]).alloc (.cells #[.int .i64 c2,.int .i64 r2] 100)
  have kb:=Blk.new (w1.alloc (.cells #[.int .i64 c1,.int .i64 r1] 100)) 100 #[.int .i64 c2,.int .i64 r2]
  rw [World.size_alloc] at kb
  have HB2 : Hid (Below w.heap.size w ((w1.alloc (.cells #[.int .i64 c1,.int .i64 r1] 100)).alloc (.cells #[.int .i64 c2,.int .i64 r2] 100))):=(HB1.out.alloc HB1.out.size _).alloc (by have:=HB1.out.size; simp; omega) _
  clear hb1 k0
  go_wp2_with fail
  generalize ((w1.alloc (.cells #[.int .i64 c1,.int .i64 r1] 100)).alloc (.cells #[.int .i64 c2,.int .i64 r2] 100)) = W2 at k1 ka kb HB2 ⊢
  have c0:=k1.cell 0
  have c1':=k1.cell 1
  have c2':=k1.cell 2
  have c3:=k1.cell 3
  have d0:=kb.cell 0
  have d1:=kb.cell 1
  simp at c0 c1' c2' c3 d0 d1
  clear k1 ka kb HB1
  refine (addr_Valid _ _ _).mono ?_
  rintro e w3 ⟨rfl,hb3⟩
  have e0:=cell_step hb3 c0
  have e1:=cell_step hb3 c1'
  have e2:=cell_step hb3 c2'
  have e3:=cell_step hb3 c3
  have q0:=cell_step hb3 d0
  have q1:=cell_step hb3 d1
  have HB3:=Lib.hid (below_step HB2.out hb3)
  clear hb3 c0 c1' c2' c3 d0 d1 HB2
  cases hv1 : validN c1 r1
  · have HE:=Lib.hid (checkE_no (r:=⟨c1,r1,c2,r2⟩) (by simp [checkB,hv1]))
    clear hv1
    go_wp2_with fail
    go_ret
    exact ⟨by rw [HE.out]; rfl,HB3.out⟩
  · have HV1:=Lib.hid hv1
    clear hv1
    go_wp2_with fail
    refine (addr_Valid _ _ _).mono ?_
    rintro e w4 ⟨rfl,hb4⟩
    have c0:=cell_step hb4 e0
    have c1':=cell_step hb4 e1
    have c2':=cell_step hb4 e2
    have c3:=cell_step hb4 e3
    have HB4:=Lib.hid (below_step HB3.out hb4)
    clear hb4 e0 e1 e2 e3 q0 q1 HB3
    cases hv2 : validN c2 r2
    · have HE:=Lib.hid (checkE_no (r:=⟨c1,r1,c2,r2⟩) (by simp [checkB,hv2]))
      clear hv2
      go_wp2_with fail
      go_ret
      exact ⟨by rw [HE.out]; rfl,HB4.out⟩
    · by_cases h1 : c1 ≤ c2
      · by_cases h2 : r1 ≤ r2
        · have HE:=Lib.hid (checkE_yes (r:=⟨c1,r1,c2,r2⟩) (by simp [checkB,HV1.out,hv2,h1,h2]))
          clear hv2
          go_wp2_with fail
          go_ret
          exact ⟨by rw [HE.out]; rfl,HB4.out⟩
        · have HE:=Lib.hid (checkE_no (r:=⟨c1,r1,c2,r2⟩) (by simp [checkB,h2]))
          clear hv2
          go_wp2_with fail
          go_ret
          exact ⟨by rw [HE.out]; rfl,HB4.out⟩
      · have HE:=Lib.hid (checkE_no (r:=⟨c1,r1,c2,r2⟩) (by simp [checkB,h1]))
        clear hv2
        go_wp2_with fail
        go_ret
        exact ⟨by rw [HE.out]; rfl,HB4.out⟩
end Go.Proofs.YtjbimcdofenmdaaGreatDoor
