/- The contracts of what op.Parse defers, and of op.Parse. -/
import Derived.Test.YtjbimcdofenmdaaGreatDoorOpI
import Derived.Test.YtjbimcdofenmdaaGreatDoorOpJ
import Derived.Defers
import Derived.Recover
namespace Go.Proofs.YtjbimcdofenmdaaGreatDoor
open Go.RowKit
set_option maxRecDepth 100000 in
set_option maxHeartbeats 4000000 in
theorem ocatch_fault (w0 : World) (xb eb : Nat) (p0 p1 p2 p3 p4 p5 p6 p7 p8 p9 p10 p11 p12 ev : Value) (w : World) (hx : w0.heap.size ≤ xb) (he : w0.heap.size ≤ eb) (h12 : xb ≠ eb) (h : Ok w0 [kVar xb 28 [p0,p1,p2,p3,p4,p5,p6,p7,p8,p9,p10,p11,p12],kVar eb 32 [ev]] w) :
    CallsD Tryz.prog 38 #[.pointer (some ⟨xb,0,none⟩),.pointer (some ⟨eb,0,none⟩)] (.panicking faultO) w fun e u' w' =>
      e = .returned (.tuple #[]) ∧ u' = .panicking [{ v:=.iface 60 (.agg #[]),recovered:=true }] ∧ Ok w0 [kVar xb 28 [.int .u8 0,.int .i64 0,.int .i64 0,.int .i64 0,.int .i64 0,.int .i64 0,.string ⟨#[]⟩,.int .u64 0,.int .u64 0,.int .u64 0,.int .u8 0,.int .u64 0,.int .i64 0],kVar eb 32 [.int .i64 4]] w':=by
  have hta : ∀ w : World,(Instr.typeAssert (.iface 60 (.agg #[])) 20 60 true).run Tryz.prog w = .ok (.tuple #[.agg #[],.bool true]) w:=fun _ => by kernel_rfl
  have H:=Lib.hid h
  clear h
  refine callsD_of_wpS Tryz.func38 rfl fun c₀ cs hu => ?_
  apply wpS_seq
  apply wpS_region
  rw [show List.range (Array.size _) = [0,1,2,3,4,5,6,7] from rfl]
  obtain ⟨cm,hcm⟩ : ∃ cm,({ c₀ with mode:=.panicking [{ v:=.iface 60 (.agg #[]),recovered:=true }] } : Frame) = cm:=⟨_,rfl⟩
  have hrc : recoverD (c₀ :: cs) = some (.iface 60 (.agg #[]),cm :: cs):=by rw [← hcm]; simp only [recoverD,hu,faultO]
  rw [wpOpsS]
  simp [go_sem,hrc,Tryz.ntmps38]
  rw [wpOpsS]
  simp [go_sem,hta]
  rw [wpOpsS]
  simp [go_sem]
  rw [wpOpsS]
  simp [go_sem]
  rw [wpOpsS]
  simp [go_sem]
  rw [wpOpsS]
  simp [go_sem]
  rw [wpOpsS]
  simp [go_sem]
  rw [wpOpsS]
  simp [go_sem]
  rw [wpOpsS]
  simp only [Exit.thenS]
  refine wpS_of_wp ?_
  have F:=H.out.sees
  simp only [sees,kVar,cellsAt,Nat.reduceAdd] at F
  obtain ⟨⟨⟨z0,f0⟩,q0,q1,q2,q3,q4,q5,q6,q7,q8,q9,q10,q11,q12,-⟩,⟨⟨z1,f1⟩,c1,-⟩,-⟩:=F
  have hf1 : ∀ x ∈ [kVar eb 32 [ev]],x.far (some xb):=by simp [kVar]; omega
  have hf2 : ∀ x ∈ [kVar xb 28 [.int .u8 0,.int .i64 0,.int .i64 0,.int .i64 0,.int .i64 0,.int .i64 0,.string ⟨#[]⟩,.int .u64 0,.int .u64 0,.int .u64 0,.int .u8 0,.int .u64 0,.int .i64 0]],x.far (some eb):=by simp [kVar]; omega
  have HE:=Lib.hid (((((((((((((((((H.out.set_ (i:=0) (u:=.int .u8 0) hx hf1).set_ (i:=1) (u:=.int .i64 0) hx hf1).set_ (i:=2) (u:=.int .i64 0) hx hf1).set_ (i:=3) (u:=.int .i64 0) hx hf1).set_ (i:=4) (u:=.int .i64 0) hx hf1).set_ (i:=5) (u:=.int .i64 0) hx hf1).set_ (i:=6) (u:=.string ⟨#[]⟩) hx hf1).set_ (i:=7) (u:=.int .u64 0) hx hf1).set_ (i:=8) (u:=.int .u64 0) hx hf1).set_ (i:=9) (u:=.int .u64 0) hx hf1).set_ (i:=10) (u:=.int .u8 0) hx hf1).set_ (i:=11) (u:=.int .u64 0) hx hf1).set_ (i:=12) (u:=.int .i64 0) hx hf1).drop [kVar eb 32 [ev],kVar xb 28 [.int .u8 0,.int .i64 0,.int .i64 0,.int .i64 0,.int .i64 0,.int .i64 0,.string ⟨#[]⟩,.int .u64 0,.int .u64 0,.int .u64 0,.int .u8 0,.int .u64 0,.int .i64 0]] (by simp)).set_ (i:=0) (u:=.int .i64 4) he hf2).drop [kVar xb 28 [.int .u8 0,.int .i64 0,.int .i64 0,.int .i64 0,.int .i64 0,.int .i64 0,.string ⟨#[]⟩,.int .u64 0,.int .u64 0,.int .u64 0,.int .u8 0,.int .u64 0,.int .i64 0],kVar eb 32 [.int .i64 4]] (by simp)).alloc_obj (.cells #[] 60))
  clear hf1 hf2
  go_wp2_with fail
  subst hcm
  exact ⟨rfl,_,rfl,_,results_none rfl _ _ _,rfl,rfl,HE.out⟩
set_option maxRecDepth 100000 in
set_option maxHeartbeats 4000000 in
theorem ocatch_none (xb eb : Nat) (w : World) :
    CallsD Tryz.prog 38 #[.pointer (some ⟨xb,0,none⟩),.pointer (some ⟨eb,0,none⟩)] .returning w fun e u' w' => e = .returned (.tuple #[]) ∧ u' = .returning ∧ Below w.heap.size w w':=by
  have hta : ∀ w : World,(Instr.typeAssert .nilIface 20 60 true).run Tryz.prog w = .ok (.tuple #[.agg #[],.bool false]) w:=fun _ => by kernel_rfl
  refine callsD_of_wpS Tryz.func38 rfl fun c₀ cs hu => ?_
  apply wpS_seq
  apply wpS_region
  rw [show List.range (Array.size _) = [0,1,2,3,4,5,6,7] from rfl]
  have hrc : recoverD (c₀ :: cs) = none:=by simp only [recoverD,hu]
  rw [wpOpsS]
  simp [go_sem,hrc,Tryz.ntmps38]
  rw [wpOpsS]
  simp [go_sem,hta]
  rw [wpOpsS]
  simp [go_sem]
  rw [wpOpsS]
  simp [go_sem]
  rw [wpOpsS]
  simp [go_sem]
  rw [wpOpsS]
  simp [go_sem]
  rw [wpOpsS]
  simp [go_sem]
  rw [wpOpsS]
  simp [go_sem]
  rw [wpOpsS]
  simp only [Exit.thenS]
  refine wpS_of_wp ?_
  go_wp2_with fail
  cases c₀
  simp only [] at hu
  subst hu
  exact ⟨rfl,_,rfl,_,results_none rfl _ _ _,rfl,rfl,(Below.refl _ _).alloc (Nat.le_refl _) _⟩
def ParseOut (l : List UInt8) (w : World) (e : Ending) (w' : World) : Prop:=∃ x err,e = .returned (.tuple #[OpV.V x,.int .i64 err]) ∧ ParsedAs l x err ∧ Below w.heap.size w w'
end Go.Proofs.YtjbimcdofenmdaaGreatDoor
