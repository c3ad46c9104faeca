/- Contracts of the reference's From, To and Check of ranges, and of package rect's all. Contracts of package rect's Meet and of its reference. Contracts of package rect's rest, Minus and Area, and of the reference's. Contracts of Minus, package rect's and the reference's, and of the kit's EqualRects. Contracts of Has, One and Inside, package rect's and the reference's. -/
import Derived.Test.YtlngjiibbcgkmaaGreatDoorAddrR
import Derived.Test.YtlngjiibbcgkmaaGreatDoorRectW
import Derived.Deep.AppendLies
import Derived.Deep.Onto
import Derived.Deep.RegionHeld3
namespace Go.Proofs.YtlngjiibbcgkmaaGreatDoor
open Go.RowKit
theorem ref_From (c1 r1 c2 r2 : Int) (w : World) :
  Calls Tryz.prog 128 #[.agg #[.int .i64 c1,.int .i64 r1,.int .i64 c2,.int .i64 r2]] w fun e w' => e = .returned (.agg #[.int .i64 c1,.int .i64 r1]) ∧ Below w.heap.size w w':=by
 go_enter Tryz.func128,Tryz.ntmps128
 go_wp2
 refine bodyPost_ret (v:=.agg #[.int .i64 c1,.int .i64 r1]) (by simp [results,Tryz.results128,go_sem]) rfl ⟨rfl,?_⟩
 exact ((Below.refl _ _).alloc (Nat.le_refl _) _).alloc (by simp) _
theorem ref_To (c1 r1 c2 r2 : Int) (w : World) :
  Calls Tryz.prog 129 #[.agg #[.int .i64 c1,.int .i64 r1,.int .i64 c2,.int .i64 r2]] w fun e w' => e = .returned (.agg #[.int .i64 c2,.int .i64 r2]) ∧ Below w.heap.size w w':=by
 go_enter Tryz.func129,Tryz.ntmps129
 go_wp2
 refine bodyPost_ret (v:=.agg #[.int .i64 c2,.int .i64 r2]) (by simp [results,Tryz.results129,go_sem]) rfl ⟨rfl,?_⟩
 exact ((Below.refl _ _).alloc (Nat.le_refl _) _).alloc (by simp) _
set_option maxHeartbeats 2000000 in
theorem ref_Check (c1 r1 c2 r2 : Int) (w : World) :
  Calls Tryz.prog 126 #[.agg #[.int .i64 c1,.int .i64 r1,.int .i64 c2,.int .i64 r2]] w fun e w' => e = .returned (.int .i64 (checkE ⟨c1,r1,c2,r2⟩)) ∧ Below w.heap.size w w':=by
 go_enter Tryz.func126,Tryz.ntmps126
 go_wp2_with fail
 have k0:=Blk.new w 30 #[.int .i64 c1,.int .i64 r1,.int .i64 c2,.int .i64 r2]
 have HB_0 : Hid (Below w.heap.size w (w.alloc (.cells #[.int .i64 c1,.int .i64 r1,.int .i64 c2,.int .i64 r2] 30))):=(Below.refl w.heap.size w).alloc (Nat.le_refl _) _
 generalize (w.alloc (.cells #[.int .i64 c1,.int .i64 r1,.int .i64 c2,.int .i64 r2] 30)) = W0 at k0 HB_0 ⊢
 have a_0:=k0.cell 0
 have b_0:=k0.cell 1
 have c_0:=k0.cell 2
 have d_0:=k0.cell 3
 simp at a_0 b_0 c_0 d_0
 clear k0
 refine (ref_From _ _ _ _ _).mono ?_
 rintro e w_1 ⟨rfl,hb_1⟩
 have a_1:=cell_step hb_1 a_0
 have b_1:=cell_step hb_1 b_0
 have c_1:=cell_step hb_1 c_0
 have d_1:=cell_step hb_1 d_0
 have HB_1:=Lib.hid (below_step HB_0.out hb_1)
 clear hb_1 a_0 b_0 c_0 d_0
 go_wp2_with fail
 refine (ref_Valid _ _ _).mono ?_
 rintro e w_2 ⟨rfl,hb_2⟩
 have a_2:=cell_step hb_2 a_1
 have b_2:=cell_step hb_2 b_1
 have c_2:=cell_step hb_2 c_1
 have d_2:=cell_step hb_2 d_1
 have HB_2:=Lib.hid (below_step HB_1.out hb_2)
 clear hb_2 a_1 b_1 c_1 d_1
 cases hv1 : validN c1 r1
 ·have HE:=Lib.hid (checkE_no (r:=⟨c1,r1,c2,r2⟩) (by simp [checkB,hv1]))
  clear hv1
  go_wp2_with fail
  go_ret
  exact ⟨by rw [HE.out]; rfl,HB_2.out⟩
 ·have HV1:=Lib.hid hv1
  clear hv1
  go_wp2_with fail
  refine (ref_To _ _ _ _ _).mono ?_
  rintro e w_103 ⟨rfl,hb_103⟩
  have a_103:=cell_step hb_103 a_2
  have b_103:=cell_step hb_103 b_2
  have c_103:=cell_step hb_103 c_2
  have d_103:=cell_step hb_103 d_2
  have HB_103:=Lib.hid (below_step HB_2.out hb_103)
  clear hb_103 a_2 b_2 c_2 d_2
  go_wp2_with fail
  refine (ref_Valid _ _ _).mono ?_
  rintro e w_104 ⟨rfl,hb_104⟩
  have a_104:=cell_step hb_104 a_103
  have b_104:=cell_step hb_104 b_103
  have c_104:=cell_step hb_104 c_103
  have d_104:=cell_step hb_104 d_103
  have HB_104:=Lib.hid (below_step HB_103.out hb_104)
  clear hb_104 a_103 b_103 c_103 d_103
  cases hv2 : validN c2 r2
  ·have HE:=Lib.hid (checkE_no (r:=⟨c1,r1,c2,r2⟩) (by simp [checkB,hv2]))
   clear hv2
   go_wp2_with fail
   go_ret
   exact ⟨by rw [HE.out]; rfl,HB_104.out⟩
  ·by_cases h1 : c1 ≤ c2
   ·by_cases h2 : r1 ≤ r2
    ·have HE:=Lib.hid (checkE_yes (r:=⟨c1,r1,c2,r2⟩) (by simp [checkB,HV1.out,hv2,h1,h2]))
     clear hv2
     go_wp2_with fail
     go_ret
     exact ⟨by rw [HE.out]; rfl,HB_104.out⟩
    ·have HE:=Lib.hid (checkE_no (r:=⟨c1,r1,c2,r2⟩) (by simp [checkB,h2]))
     clear hv2
     go_wp2_with fail
     go_ret
     exact ⟨by rw [HE.out]; rfl,HB_104.out⟩
   ·have HE:=Lib.hid (checkE_no (r:=⟨c1,r1,c2,r2⟩) (by simp [checkB,h1]))
    clear hv2
    go_wp2_with fail
    go_ret
    exact ⟨by rw [HE.out]; rfl,HB_104.out⟩
def rv (r : R4) : Nat → Value
 | 0 => .int .i64 r.c1
 | 1 => .int .i64 r.r1
 | 2 => .int .i64 r.c2
 | _ => .int .i64 r.r2
def IsRects (w : World) (B : Nat) (a : Option Addr) (n : Nat) (f : Nat → R4) : Prop:=IsRows 4 w B a n (fun i j => rv (f i) j)
theorem IsRects.below {w w' : World} {B B' n : Nat} {a : Option Addr} {f : Nat → R4} (h : IsRects w B a n f) (hb : Below B w w') (hB : B ≤ B') : IsRects w' B' a n f:=IsRows.below h hb hB
end Go.Proofs.YtlngjiibbcgkmaaGreatDoor
namespace Go.Proofs.YtlngjiibbcgkmaaGreatDoor
section
open Go.RowKit
end
section
open Go.RowKit
end
section
open Go.RowKit
end
end Go.Proofs.YtlngjiibbcgkmaaGreatDoor
namespace Go.Proofs.YtlngjiibbcgkmaaGreatDoor
open Go.RowKit
theorem rect_One (c t : Int) (w : World) :
  Calls Tryz.prog 62 #[.agg #[.int .i64 c,.int .i64 t]] w fun e w' => e = .returned (.agg #[.int .i64 c,.int .i64 t,.int .i64 c,.int .i64 t]) ∧ Below w.heap.size w w':=by
 go_enter Tryz.func62,Tryz.ntmps62
 go_wp2
 refine bodyPost_ret (v:=.agg #[.int .i64 c,.int .i64 t,.int .i64 c,.int .i64 t]) (by simp [results,Tryz.results62,go_sem]) rfl ⟨rfl,?_⟩
 first
  | exact ((Below.refl _ _).alloc (Nat.le_refl _) _)
  | exact (((Below.refl _ _).alloc (Nat.le_refl _) _).alloc (by simp) _)
  | exact ((((((((Below.refl _ _).alloc (Nat.le_refl _) _).alloc (by simp) _)).setCell (by simp) _).setCell (by simp) _).setCell (by simp) _).setCell (by simp) _)
theorem ref_One (c t : Int) (w : World) :
  Calls Tryz.prog 108 #[.agg #[.int .i64 c,.int .i64 t]] w fun e w' => e = .returned (.agg #[.int .i64 c,.int .i64 t,.int .i64 c,.int .i64 t]) ∧ Below w.heap.size w w':=by
 go_enter Tryz.func108,Tryz.ntmps108
 go_wp2
 refine bodyPost_ret (v:=.agg #[.int .i64 c,.int .i64 t,.int .i64 c,.int .i64 t]) (by simp [results,Tryz.results108,go_sem]) rfl ⟨rfl,?_⟩
 first
  | exact ((Below.refl _ _).alloc (Nat.le_refl _) _)
  | exact (((Below.refl _ _).alloc (Nat.le_refl _) _).alloc (by simp) _)
  | exact ((((((((Below.refl _ _).alloc (Nat.le_refl _) _).alloc (by simp) _)).setCell (by simp) _).setCell (by simp) _).setCell (by simp) _).setCell (by simp) _)
end Go.Proofs.YtlngjiibbcgkmaaGreatDoor
