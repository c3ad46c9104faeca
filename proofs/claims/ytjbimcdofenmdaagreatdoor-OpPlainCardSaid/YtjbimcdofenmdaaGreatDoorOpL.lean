/- The contract of the laws' fixed operation. -/
import Derived.Test.YtjbimcdofenmdaaGreatDoorOpK
namespace Go.Proofs.YtjbimcdofenmdaaGreatDoor
open Go.RowKit
def knownV : OpV:=⟨4,1,⟨1,1,2,2⟩,[],0,0,0,0,0,0⟩
def auditV : OpV:=⟨10,2,R4.zero,[],0,0,0,0,0,0⟩
theorem knownV_ok : knownV.Ok:=by
  constructor <;> first | decide | exact ⟨by decide,by decide⟩
theorem auditV_ok : auditV.Ok:=by
  constructor <;> first | decide | exact ⟨by decide,by decide⟩
theorem knownV_good : goodV knownV:=by decide
theorem auditV_good : goodV auditV:=by decide
theorem knownV_line : lineL knownV = [99,108,101,97,114,32,49,32,65,49,58,66,50]:=by kernel_rfl
theorem auditV_line : lineL auditV = [97,117,100,105,116,32,50]:=by kernel_rfl
theorem known_parse (w : World) (he : Env6 w) : Calls Tryz.prog 19 #[.string ⟨#[99,108,101,97,114,32,49,32,65,49,58,66,50]⟩] w fun e w' => e = .returned (.tuple #[.agg #[.int .u8 4,.int .i64 1,.int .i64 1,.int .i64 1,.int .i64 2,.int .i64 2,.string ⟨#[]⟩,.int .u64 0,.int .u64 0,.int .u64 0,.int .u8 0,.int .u64 0,.int .i64 0],.int .i64 0]) ∧ Below w.heap.size w w':=by
  refine (op_Parse [99,108,101,97,114,32,49,32,65,49,58,66,50] w (by decide) he).mono ?_
  rintro e w1 ⟨x,err,rfl,hp,hb⟩
  obtain ⟨rfl,rfl⟩:=hp.same (y:=knownV) (f:=0) (.inl ⟨rfl,knownV_ok,knownV_good,knownV_line⟩)
  exact ⟨rfl,hb⟩
theorem audit_format (w : World) (he : Env6 w) : Calls Tryz.prog 11 #[.agg #[.int .u8 10,.int .i64 2,.int .i64 0,.int .i64 0,.int .i64 0,.int .i64 0,.string ⟨#[]⟩,.int .u64 0,.int .u64 0,.int .u64 0,.int .u8 0,.int .u64 0,.int .i64 0]] w fun e w' => e = .returned (.tuple #[.string ⟨#[97,117,100,105,116,32,50]⟩,.int .i64 0]) ∧ Below w.heap.size w w':=by
  have h:=op_Format auditV auditV_ok (Nat.zero_le _) w he
  rw [show formatV auditV = ([97,117,100,105,116,32,50],0) by unfold formatV; rw [if_pos auditV_good,auditV_line]] at h
  exact h
set_option maxRecDepth 100000 in
set_option maxHeartbeats 4000000 in
theorem law_known (w : World) (he : Env6 w) : Calls Tryz.prog 8 #[] w fun e w' => e = .returned (.bool true) ∧ Below w.heap.size w w':=by
  have HE:=keep he
  clear he
  have H1:=Lib.hid (Ok.start w)
  go_enter Tryz.func8,Tryz.ntmps8
  go_wp2_with fail
  refine (known_parse _ (HE.out.below H1.out.bel)).mono ?_
  rintro e w2 ⟨rfl,hb3⟩
  have H4:=Lib.hid (H1.out.below hb3)
  clear hb3 H1
  go_upto_region 2 with fail
  have H5:=Lib.hid (H4.out.alloc w2.heap.size 28 [.int .u8 4,.int .i64 1,.int .i64 1,.int .i64 1,.int .i64 2,.int .i64 2,.string ⟨#[]⟩,.int .u64 0,.int .u64 0,.int .u64 0,.int .u8 0,.int .u64 0,.int .i64 0] rfl)
  clear H4
  generalize (w2.alloc (.cells #[.int .u8 4,.int .i64 1,.int .i64 1,.int .i64 1,.int .i64 2,.int .i64 2,.string ⟨#[]⟩,.int .u64 0,.int .u64 0,.int .u64 0,.int .u8 0,.int .u64 0,.int .i64 0] 28)) = W6 at H5 ⊢
  go_wp2_with fail
  refine (audit_format _ (HE.out.below H5.out.bel)).mono ?_
  rintro e w7 ⟨rfl,hb8⟩
  have H9:=Lib.hid (H5.out.below hb8)
  clear hb8 H5
  have F10:=H9.out.sees
  simp only [sees,kBlk,cellsAt,Nat.reduceAdd] at F10
  obtain ⟨⟨z0,c0_0,c0_1,c0_2,c0_3,c0_4,c0_5,c0_6,c0_7,c0_8,c0_9,c0_10,c0_11,c0_12,-⟩,-⟩:=F10
  go_wp2_with fail
  refine (op_Mutates knownV _).mono ?_
  rintro e w11 ⟨rfl,hb12⟩
  clear z0 c0_0 c0_1 c0_2 c0_3 c0_4 c0_5 c0_6 c0_7 c0_8 c0_9 c0_10 c0_11 c0_12
  have H13:=Lib.hid (H9.out.below hb12)
  clear hb12 H9
  have F14:=H13.out.sees
  simp only [sees,kBlk,cellsAt,Nat.reduceAdd] at F14
  obtain ⟨⟨z0,c0_0,c0_1,c0_2,c0_3,c0_4,c0_5,c0_6,c0_7,c0_8,c0_9,c0_10,c0_11,c0_12,-⟩,-⟩:=F14
  rw [show mutV knownV.kind = true from rfl]
  go_wp2_with fail
  go_ret
  exact ⟨rfl,H13.out.bel⟩
end Go.Proofs.YtjbimcdofenmdaaGreatDoor
