/- Plain: ranges, and what package rect's small functions compute. No program stands here but by the name of its kit. The contract of the reference's Valid. Contracts of package rect's corners, Check, and of their references. A loop over an iterator that keeps its state in one captured cell: one integer a round, nobody leaves early. No program stands here. -/
import Derived.Test.YtmalncmdfmoccaaGreatDoorCOk
import Derived.RangeFuncNested
import Derived.RangeFuncBound
import Derived.RangeFuncCalls
import Derived.RangeFuncLeaves
import Derived.RangeFuncBox
import Derived.Shelf.Abstract
import Derived.OwnWalkIn
import Derived.TacticsInMore
import Derived.LoopNIn
import Derived.LoopIn
import Derived.Maps.AppendAt
namespace Go.Proofs.YtmalncmdfmoccaaGreatDoor
structure R4 where
  c1 : Int
  r1 : Int
  c2 : Int
  r2 : Int
deriving DecidableEq
def R4.zero : R4:=⟨0,0,0,0⟩
def checkB (r : R4) : Bool:=validN r.c1 r.r1 && validN r.c2 r.r2 && decide (r.c1 ≤ r.c2) && decide (r.r1 ≤ r.r2)
def checkE (r : R4) : Int:=if checkB r = true then 0 else 3
theorem checkB_iff (r : R4) : checkB r = true ↔ 1 ≤ r.c1 ∧ r.c1 ≤ r.c2 ∧ r.c2 ≤ 1024 ∧ 1 ≤ r.r1 ∧ r.r1 ≤ r.r2 ∧ r.r2 ≤ 1024:=by
  simp only [checkB,validN,Bool.and_eq_true,decide_eq_true_eq]; omega
end Go.Proofs.YtmalncmdfmoccaaGreatDoor
namespace Go.Proofs.YtmalncmdfmoccaaGreatDoor
open Go.RowKit
theorem ref_Valid (c r : Int) (w : World) :
    Calls Tryz.prog 195 #[.agg #[.int .i64 c,.int .i64 r]] w fun e w' => e = .returned (.bool (validN c r)) ∧ Below w.heap.size w w':=by
  apply validN_cases c r <;> intros
  all_goals
    go_enter Tryz.func195,Tryz.ntmps195
    go_wp2
    go_ret
    exact ⟨by simp only [Array.getD_eq_getD_getElem?]; simp [validN]; try omega,(Below.refl _ _).alloc (Nat.le_refl _) _⟩
end Go.Proofs.YtmalncmdfmoccaaGreatDoor
namespace Go.Proofs.YtmalncmdfmoccaaGreatDoor
open Go.RowKit
theorem rect_corners (c1 r1 c2 r2 : Int) (w : World) :
    Calls Tryz.prog 147 #[.agg #[.int .i64 c1,.int .i64 r1,.int .i64 c2,.int .i64 r2]] w fun e w' => e = .returned (.tuple #[.agg #[.int .i64 c1,.int .i64 r1],.agg #[.int .i64 c2,.int .i64 r2]]) ∧ Below w.heap.size w w':=by
  go_enter Tryz.func147,Tryz.ntmps147
  go_wp2
  go_region
  go_wp2
  refine bodyPost_ret (v:=.tuple #[.agg #[.int .i64 c1,.int .i64 r1],.agg #[.int .i64 c2,.int .i64 r2]]) (by simp [results,Tryz.results147,go_sem]) rfl ⟨rfl,?_⟩
  exact ((((Below.refl _ _).alloc (Nat.le_refl _) _).alloc (by simp) _).alloc (by simp; omega) _).drew
theorem checkE_yes {r : R4} (h : checkB r = true) : checkE r = 0:=by unfold checkE; rw [if_pos h]
theorem checkE_no {r : R4} (h : checkB r = false) : checkE r = 3:=by unfold checkE; rw [if_neg (by simp [h])]
set_option maxHeartbeats 2000000 in
theorem rect_Check (c1 r1 c2 r2 : Int) (w : World) :
    Calls Tryz.prog 146 #[.agg #[.int .i64 c1,.int .i64 r1,.int .i64 c2,.int .i64 r2]] w fun e w' => e = .returned (.int .i64 (checkE ⟨c1,r1,c2,r2⟩)) ∧ Below w.heap.size w w':=by
  go_enter Tryz.func146,Tryz.ntmps146
  go_wp2_with fail
  have k0:=Blk.new w 49 #[.int .i64 c1,.int .i64 r1,.int .i64 c2,.int .i64 r2]
  refine (rect_corners _ _ _ _ _).mono ?_
  rintro e w1 ⟨rfl,hb1⟩
  have hz1 : w.heap.size < w1.heap.size:=by have:=hb1.size; simp at this; omega
  have HB1:=Lib.hid (((Below.refl w.heap.size w).alloc (Nat.le_refl _) (.cells #[.int .i64 c1,.int .i64 r1,.int .i64 c2,.int .i64 r2] 49)).trans (hb1.mono (by simp)))
  have k1:=((k0.below hb1 (by simp)).alloc (.cells #[.int .i64 c1,.int .i64 r1] 45)).alloc (.cells #[.int .i64 c2,.int .i64 r2] 45)
  have ka:=(Blk.new w1 45 #[.int .i64 c1,.int .i64 r1]).alloc (.cells #[.int .i64 c2,.int .i64 r2] 45)
  have kb:=Blk.new (w1.alloc (.cells #[.int .i64 c1,.int .i64 r1] 45)) 45 #[.int .i64 c2,.int .i64 r2]
  rw [World.size_alloc] at kb
  have HB2 : Hid (Below w.heap.size w ((w1.alloc (.cells #[.int .i64 c1,.int .i64 r1] 45)).alloc (.cells #[.int .i64 c2,.int .i64 r2] 45))):=(HB1.out.alloc HB1.out.size _).alloc (by have:=HB1.out.size; simp; omega) _
  clear hb1 k0
  go_wp2_with fail
  generalize ((w1.alloc (.cells #[.int .i64 c1,.int .i64 r1] 45)).alloc (.cells #[.int .i64 c2,.int .i64 r2] 45)) = W2 at k1 ka kb HB2 ⊢
  have c0:=k1.cell 0
  have c1':=k1.cell 1
  have c2':=k1.cell 2
  have c3:=k1.cell 3
  have d0:=kb.cell 0
  have d1:=kb.cell 1
  simp at c0 c1' c2' c3 d0 d1
  clear k1 ka kb HB1
  refine (addr_Valid _ _ _).mono ?_
  rintro e w3 ⟨rfl,hb3⟩
  have e0:=cell_step hb3 c0
  have e1:=cell_step hb3 c1'
  have e2:=cell_step hb3 c2'
  have e3:=cell_step hb3 c3
  have q0:=cell_step hb3 d0
  have q1:=cell_step hb3 d1
  have HB3:=Lib.hid (below_step HB2.out hb3)
  clear hb3 c0 c1' c2' c3 d0 d1 HB2
  cases hv1 : validN c1 r1
  · have HE:=Lib.hid (checkE_no (r:=⟨c1,r1,c2,r2⟩) (by simp [checkB,hv1]))
    clear hv1
    go_wp2_with fail
    go_ret
    exact ⟨by rw [HE.out]; rfl,HB3.out⟩
  · have HV1:=Lib.hid hv1
    clear hv1
    go_wp2_with fail
    refine (addr_Valid _ _ _).mono ?_
    rintro e w4 ⟨rfl,hb4⟩
    have c0:=cell_step hb4 e0
    have c1':=cell_step hb4 e1
    have c2':=cell_step hb4 e2
    have c3:=cell_step hb4 e3
    have HB4:=Lib.hid (below_step HB3.out hb4)
    clear hb4 e0 e1 e2 e3 q0 q1 HB3
    cases hv2 : validN c2 r2
    · have HE:=Lib.hid (checkE_no (r:=⟨c1,r1,c2,r2⟩) (by simp [checkB,hv2]))
      clear hv2
      go_wp2_with fail
      go_ret
      exact ⟨by rw [HE.out]; rfl,HB4.out⟩
    · by_cases h1 : c1 ≤ c2
      · by_cases h2 : r1 ≤ r2
        · have HE:=Lib.hid (checkE_yes (r:=⟨c1,r1,c2,r2⟩) (by simp [checkB,HV1.out,hv2,h1,h2]))
          clear hv2
          go_wp2_with fail
          go_ret
          exact ⟨by rw [HE.out]; rfl,HB4.out⟩
        · have HE:=Lib.hid (checkE_no (r:=⟨c1,r1,c2,r2⟩) (by simp [checkB,h2]))
          clear hv2
          go_wp2_with fail
          go_ret
          exact ⟨by rw [HE.out]; rfl,HB4.out⟩
      · have HE:=Lib.hid (checkE_no (r:=⟨c1,r1,c2,r2⟩) (by simp [checkB,h1]))
        clear hv2
        go_wp2_with fail
        go_ret
        exact ⟨by rw [HE.out]; rfl,HB4.out⟩
end Go.Proofs.YtmalncmdfmoccaaGreatDoor
namespace Go.Proofs.YtmalncmdfmoccaaGreatDoor
open Go.RowKit
def goesOn (R : World → Prop) : Exit → Act → World → Prop
  | .normal,_,w => R w
  | _,_,_ => False
def Rounds (F : Fence) (m : Nat) (P : Program) (l o : Nat) (xs : List Int) (J : List Int → World → Prop) : Prop :=
  ∀ (pre : List Int) (x : Int) (W1 : World),J pre W1 → pre ++ [x] <+: xs → YieldAt F m P l #[.int .i64 x] W1 fun e W' => e = .returned (.bool true) ∧ J (pre ++ [x]) W' ∧ W'.heap[o]? = W1.heap[o]?
def Hands (F : Fence) (n : Nat) (P : Program) (gf : Nat) (lb : Array Value) (o : Nat) (K : World → Prop) (xs : List Int) (w : World) : Prop :=
  ∀ (l : Nat) (J : List Int → World → Prop) (W : World),(∀ pre W,J pre W → K W) → (∀ pre W v,J pre W → J pre (W.setCell ⟨o,0,none⟩ v)) → (∀ pre W,J pre W → J pre W.drew) → Rounds F (n - 1) P l o xs J → W.heap[o]? = w.heap[o]? → J [] W →
    CallsIn F n P gf (#[.func (.yield l) #[] #[]] ++ lb) W fun e W' => (∃ v,e = .returned v) ∧ J xs W'
theorem range_hands {F : Fence} {n : Nat} {P : Program} {g : Operand} {ps : Array Tmp} {assign body : Code} {Q : Exit → Act → World → Prop} {a : Act} {w : World}
    (hro : F.round = none) (h1 : 1 ≤ n) {gf : Nat} {lb : Array Value} (hg : a.eval g = .func (.func gf) #[] lb) (hFg : F.fn gf) (eg : ∀ args w,(callFunc gf args).run P w = .ok (.enter gf args) w)
    (xs : List Int) (hps : ps.size = 1) (o : Nat) (ho : o < w.heap.size) {K : World → Prop} (hseq : Hands F (n - 1) P gf lb o K xs w)
    (I : List Int → World → Prop)
    (hIp : ∀ pre W l ob ob',I pre W → w.heap.size ≤ l → W.heap[l]? = some ob → ob.isCells = false → I pre (W.putObj l ob'))
    (hIa : ∀ pre W ob,I pre W → I pre (W.alloc ob)) (hIs : ∀ pre W v,I pre W → I pre (W.setCell ⟨o,0,none⟩ v)) (hId : ∀ pre W,I pre W → I pre W.drew) (hIK : ∀ pre W,I pre W → K W) (h0 : I [] w) (a₁ : Int → Act)
    (hassign : ∀ (l : Nat) (x : Int) (W : World) (K : Act → World → Prop),K (a₁ x) W →
      assign.wpIn (F.inRound l) (n - 1 - 1) P (Exit.then K (fun _ _ _ => False)) { tmps:=(ps.zip #[.int .i64 x]).foldl (fun t (p,v) => t.setIfInBounds p v) a.tmps,defers:=[] } W)
    (hbody : ∀ (l : Nat) (pre : List Int) (x : Int) (W : World),w.heap.size ≤ l → I pre W → o < W.heap.size → pre ++ [x] <+: xs →
      body.wpIn (F.inRound l) (n - 1 - 1) P (goesOn fun W' => KeepsFrom w.heap.size W W' ∧ I (pre ++ [x]) W' ∧ W'.heap[o]? = W.heap[o]?) (a₁ x) W)
    (hdone : ∀ (D : Nat) (W : World),w.heap.size ≤ D → I xs W → W.heap[D]? = some (.deferred (some [])) → Q .normal { a with defers:={ target:=.collected D,args:=#[] } :: a.defers } W) :
    (Code.rangeFunc g ps assign body).wpIn F n P Q a w:=by
  refine wpIn_rangeFunc fun fn hfn => ?_
  rw [hro]
  obtain ⟨L,hL⟩ : ∃ L : LoopState → Option Code → Loop,L = fun st pe => { state:=st,pending:=pe,fn,tmps:=a.tmps,params:=ps,assign,body,defers:=w.heap.size }:=⟨_,rfl⟩
  obtain ⟨W1,hW1⟩ : ∃ W1,(w.alloc (.deferred (some []))).alloc (.loop (L .ready none)) = W1:=⟨_,rfl⟩
  have hl : W1.heap[w.heap.size + 1]? = some (.loop (L .ready none)):=by
    rw [← hW1]
    have:=World.alloc_heap_new (w.alloc (.deferred (some []))) (.loop (L .ready none))
    rwa [World.size_alloc] at this
  have hd : W1.heap[w.heap.size]? = some (.deferred (some [])):=by
    rw [← hW1]
    exact (Below.heap_alloc _ _ _ (by simp)).trans (World.alloc_heap_new w _)
  have hoo : W1.heap[o]? = w.heap[o]?:=by
    rw [← hW1]
    exact (Below.heap_alloc _ _ _ (by simp; omega)).trans (Below.heap_alloc w _ _ ho)
  refine ⟨w.heap.size + 1,[{ target:=.collected w.heap.size,args:=#[] }],W1,{ target:=.fn (.func gf) lb,args:=#[.func (.yield (w.heap.size + 1)) #[] #[]] },W1,gf,
    #[.func (.yield (w.heap.size + 1)) #[] #[]] ++ lb,W1,?_,?_,?_,?_,fun _ => h1,?_⟩
  · rw [← hW1,hL]
    exact run_enterLoop_outer _ _ _ _ _
  · simp only [resolve,hg]
    simp [go_sem]
  · intro f' hf'
    simp [Target.leads] at hf'
    subst hf'
    exact hFg
  · simp [invoke,go_sem,eg]
  · refine (hseq (w.heap.size + 1) (fun pre W => I pre W ∧ W.heap[w.heap.size + 1]? = some (.loop (L .ready none)) ∧ W.heap[w.heap.size]? = some (.deferred (some [])) ∧ o < W.heap.size) W1
      (fun pre W h => hIK pre W h.1)
      (fun pre W v h => ⟨hIs pre W v h.1,(Below.heap_setCell W ⟨o,0,none⟩ v _ (by simp; omega)).trans h.2.1,(Below.heap_setCell W ⟨o,0,none⟩ v _ (by simp; omega)).trans h.2.2.1,by simpa [World.setCell] using h.2.2.2⟩)
      (fun pre W h => ⟨hId pre W h.1,h.2⟩) ?_ hoo ⟨by rw [← hW1]; exact hIa _ _ _ (hIa _ _ _ h0),hl,hd,by rw [← hW1]; simp; omega⟩).mono ?_
    · rintro pre x W ⟨hi,hl,hd,hoW⟩ hpx
      have hlt : w.heap.size + 1 < W.heap.size:=(Array.getElem?_eq_some_iff.1 hl).1
      have hy:=run_yield (P:=P) (args:=#[.int .i64 x]) hl (by rw [hL]; exact hps.symm)
      rw [hL] at hy
      refine ⟨fn,_,assign,body,hy,roundIn_of_wpIn hfn (hassign _ x W _ ⟨_,run_beginRound hl (by rw [hL]),?_⟩)⟩
      clear hy
      have hl2 : (W.putObj (w.heap.size + 1) (.loop { L .ready none with state:=.busy })).heap[w.heap.size + 1]? = some (.loop { L .ready none with state:=.busy }):=World.putObj_heap_same hlt
      have hd2 : (W.putObj (w.heap.size + 1) (.loop { L .ready none with state:=.busy })).heap[w.heap.size]? = some (.deferred (some [])):=(World.putObj_heap_other (by omega)).trans hd
      have ho2 : (W.putObj (w.heap.size + 1) (.loop { L .ready none with state:=.busy })).heap[o]? = W.heap[o]?:=World.putObj_heap_other (by omega)
      refine wpIn_mono (hbody _ pre x _ (by omega) (hIp _ _ _ _ _ hi (by omega) hl rfl) (by simpa using hoW) hpx) ?_
      rintro e a3 W3 hp
      cases e with
      | normal =>
        obtain ⟨hk3,hi3,ho3⟩:=hp
        have hl3:=hk3.same _ _ (by omega) hl2 rfl
        have hd3:=hk3.same _ _ (Nat.le_refl _) hd2 rfl
        have hr:=run_endRound (P:=P) none hl3
        have hoW3 : o < W3.heap.size:=Nat.lt_of_lt_of_le (by simpa using hoW) hk3.size
        refine ⟨_,_,hr,rfl,⟨hIp _ _ _ _ _ hi3 (by omega) hl3 rfl,?_,(World.putObj_heap_other (by omega)).trans hd3,by simpa using hoW3⟩,(World.putObj_heap_other (by omega)).trans (ho3.trans ho2)⟩
        rw [World.putObj_heap_same (Array.getElem?_eq_some_iff.1 hl3).1,hL]
        rfl
      | ret => exact hp.elim
      | exit id => exact hp.elim
      | goto t => exact hp.elim
      | panic ch => exact hp.elim
      | outgrown => exact hp.elim
    · rintro e W2 ⟨⟨v,rfl⟩,hi,hl,hd,_⟩
      have hr:=run_endLoop (P:=P) hl (by rw [hL]; simp)
      rw [show (L .ready none).pending = none from by rw [hL]] at hr
      exact ⟨none,_,hr,hdone _ _ (Nat.le_refl _) (hIp _ _ _ _ _ hi (by omega) hl rfl) ((World.putObj_heap_other (by omega)).trans hd)⟩
end Go.Proofs.YtmalncmdfmoccaaGreatDoor
