/- Plain: ranges, and what package rect's small functions compute. No program stands here but by the name of its kit. The contract of the reference's Valid. Contracts of package rect's corners, Check, and of their references. -/
import Derived.Test.YtmalncmdfmoccaaGreatDoorBCut
namespace Go.Proofs.YtmalncmdfmoccaaGreatDoor
structure R4 where
  c1 : Int
  r1 : Int
  c2 : Int
  r2 : Int
deriving DecidableEq
def R4.zero : R4:=⟨0,0,0,0⟩
def checkB (r : R4) : Bool:=validN r.c1 r.r1 && validN r.c2 r.r2 && decide (r.c1 ≤ r.c2) && decide (r.r1 ≤ r.r2)
def checkE (r : R4) : Int:=if checkB r = true then 0 else 3
theorem checkB_iff (r : R4) : checkB r = true ↔ 1 ≤ r.c1 ∧ r.c1 ≤ r.c2 ∧ r.c2 ≤ 1024 ∧ 1 ≤ r.r1 ∧ r.r1 ≤ r.r2 ∧ r.r2 ≤ 1024:=by
  simp only [checkB,validN,Bool.and_eq_true,decide_eq_true_eq]; omega
end Go.Proofs.YtmalncmdfmoccaaGreatDoor
namespace Go.Proofs.YtmalncmdfmoccaaGreatDoor
open Go.RowKit
end Go.Proofs.YtmalncmdfmoccaaGreatDoor
namespace Go.Proofs.YtmalncmdfmoccaaGreatDoor
open Go.RowKit
theorem rect_corners (c1 r1 c2 r2 : Int) (w : World) :
    Calls Tryz.prog 147 #[.agg #[.int .i64 c1,.int .i64 r1,.int .i64 c2,.int .i64 r2]] w fun e w' => e = .returned (.tuple #[.agg #[.int .i64 c1,.int .i64 r1],.agg #[.int .i64 c2,.int .i64 r2]]) ∧ Below w.heap.size w w':=by
  go_enter Tryz.func147,Tryz.ntmps147
  go_wp2
  go_region
  go_wp2
  refine bodyPost_ret (v:=.tuple #[.agg #[.int .i64 c1,.int .i64 r1],.agg #[.int .i64 c2,.int .i64 r2]]) (by simp [results,Tryz.results147,go_sem]) rfl ⟨rfl,?_⟩
  exact ((((Below.refl _ _).alloc (Nat.le_refl _) _).alloc (by simp) _).alloc (by simp; omega) _).drew
theorem checkE_yes {r : R4} (h : checkB r = true) : checkE r = 0:=by unfold checkE; rw [if_pos h]
theorem checkE_no {r : R4} (h : checkB r = false) : checkE r = 3:=by unfold checkE; rw [if_neg (by simp [h])]
set_option maxHeartbeats 2000000 in
theorem rect_Check (c1 r1 c2 r2 : Int) (w : World) :
    Calls Tryz.prog 146 #[.agg #[.int .i64 c1,.int .i64 r1,.int .i64 c2,.int .i64 r2]] w fun e w' => e = .returned (.int .i64 (checkE ⟨c1,r1,c2,r2⟩)) ∧ Below w.heap.size w w':=by
  go_enter Tryz.func146,Tryz.ntmps146
  go_wp2_with fail
  have k0:=Blk.new w 49 #[.int .i64 c1,.int .i64 r1,.int .i64 c2,.int .i64 r2]
  refine (rect_corners _ _ _ _ _).mono ?_
  rintro e w1 ⟨rfl,hb1⟩
  have hz1 : w.heap.size < w1.heap.size:=by have:=hb1.size; simp at this; omega
  have HB1:=Lib.hid (((Below.refl w.heap.size w).alloc (Nat.le_refl _) (.cells #[.int .i64 c1,.int .i64 r1,.int .i64 c2,.int .i64 r2] 49)).trans (hb1.mono (by simp)))
  have k1:=((k0.below hb1 (by simp)).alloc (.cells #[.int .i64 c1,.int .i64 r1] 45)).alloc (.cells #[.int .i64 c2,.int .i64 r2] 45)
  have ka:=(Blk.new w1 45 #[.int .i64 c1,.int .i64 r1]).alloc (.cells #[.int .i64 c2,.int .i64 r2] 45)
  have kb:=Blk.new (w1.alloc (.cells #[.int .i64 c1,.int .i64 r1] 45)) 45 #[.int .i64 c2,.int .i64 r2]
  rw [World.size_alloc] at kb
  have HB2 : Hid (Below w.heap.size w ((w1.alloc (.cells #[.int .i64 c1,.int .i64 r1] 45)).alloc (.cells #[.int .i64 c2,.int .i64 r2] 45))):=(HB1.out.alloc HB1.out.size _).alloc (by have:=HB1.out.size; simp; omega) _
  clear hb1 k0
  go_wp2_with fail
  generalize ((w1.alloc (.cells #[.int .i64 c1,.int .i64 r1] 45)).alloc (.cells #[.int .i64 c2,.int .i64 r2] 45)) = W2 at k1 ka kb HB2 ⊢
  have c0:=k1.cell 0
  have c1':=k1.cell 1
  have c2':=k1.cell 2
  have c3:=k1.cell 3
  have d0:=kb.cell 0
  have d1:=kb.cell 1
  simp at c0 c1' c2' c3 d0 d1
  clear k1 ka kb HB1
  refine (addr_Valid _ _ _).mono ?_
  rintro e w3 ⟨rfl,hb3⟩
  have e0:=cell_step hb3 c0
  have e1:=cell_step hb3 c1'
  have e2:=cell_step hb3 c2'
  have e3:=cell_step hb3 c3
  have q0:=cell_step hb3 d0
  have q1:=cell_step hb3 d1
  have HB3:=Lib.hid (below_step HB2.out hb3)
  clear hb3 c0 c1' c2' c3 d0 d1 HB2
  cases hv1 : validN c1 r1
  · have HE:=Lib.hid (checkE_no (r:=⟨c1,r1,c2,r2⟩) (by simp [checkB,hv1]))
    clear hv1
    go_wp2_with fail
    go_ret
    exact ⟨by rw [HE.out]; rfl,HB3.out⟩
  · have HV1:=Lib.hid hv1
    clear hv1
    go_wp2_with fail
    refine (addr_Valid _ _ _).mono ?_
    rintro e w4 ⟨rfl,hb4⟩
    have c0:=cell_step hb4 e0
    have c1':=cell_step hb4 e1
    have c2':=cell_step hb4 e2
    have c3:=cell_step hb4 e3
    have HB4:=Lib.hid (below_step HB3.out hb4)
    clear hb4 e0 e1 e2 e3 q0 q1 HB3
    cases hv2 : validN c2 r2
    · have HE:=Lib.hid (checkE_no (r:=⟨c1,r1,c2,r2⟩) (by simp [checkB,hv2]))
      clear hv2
      go_wp2_with fail
      go_ret
      exact ⟨by rw [HE.out]; rfl,HB4.out⟩
    · by_cases h1 : c1 ≤ c2
      · by_cases h2 : r1 ≤ r2
        · have HE:=Lib.hid (checkE_yes (r:=⟨c1,r1,c2,r2⟩) (by simp [checkB,HV1.out,hv2,h1,h2]))
          clear hv2
          go_wp2_with fail
          go_ret
          exact ⟨by rw [HE.out]; rfl,HB4.out⟩
        · have HE:=Lib.hid (checkE_no (r:=⟨c1,r1,c2,r2⟩) (by simp [checkB,h2]))
          clear hv2
          go_wp2_with fail
          go_ret
          exact ⟨by rw [HE.out]; rfl,HB4.out⟩
      · have HE:=Lib.hid (checkE_no (r:=⟨c1,r1,c2,r2⟩) (by simp [checkB,h1]))
        clear hv2
        go_wp2_with fail
        go_ret
        exact ⟨by rw [HE.out]; rfl,HB4.out⟩
end Go.Proofs.YtmalncmdfmoccaaGreatDoor
