/- show.strength, tree.Name, show.Literal and show.own. -/
import Derived.Test.YtnbemkiplnanlaaGreatDoorMShw
import Derived.Test.YtnbemkiplnanlaaGreatDoorMSgn
import Derived.Test.YtnbemkiplnanlaaGreatDoorMParP
import Derived.Test.YtnbemkiplnanlaaGreatDoorMTwd
import Derived.Test.YtnbemkiplnanlaaGreatDoorMLexI
import Derived.Test.YtnbemkiplnanlaaGreatDoorMLexO
namespace Go.Proofs.YtnbemkiplnanlaaGreatDoor
set_option maxRecDepth 100000
set_option maxHeartbeats 4000000
open Go.RowKit
def strT (n : Nd) : Nat:=if n.kind = 5 then 7 else if n.kind = 4 then 5 else if n.kind = 6 then (if n.op = 5 then 6 else bindS n.op) else 8
theorem str_com (n : Nd) (xs : List Tx) (h : n.kind ≤ 7) : (comT n xs).2 = strT n:=by
 unfold comT strT
 have : n.kind = 0 ∨ n.kind = 1 ∨ n.kind = 2 ∨ n.kind = 3 ∨ n.kind = 4 ∨ n.kind = 5 ∨ n.kind = 6 ∨ n.kind = 7:=by omega
 rcases this with g | g | g | g | g | g | g | g <;> simp [g]
 split <;> rfl
theorem show_binary (op : Int) (h1 : 1 ≤ op) (h12 : op ≤ 12) (w : World) :
  Calls Tryz.prog 131 #[.int .i64 op] w fun e w' => e = .returned (.int .i64 ((if op = 5 then 6 else bindS op : Nat) : Int)) ∧ Below w.heap.size w w':=by
 have h : op = 1 ∨ op = 2 ∨ op = 3 ∨ op = 4 ∨ op = 5 ∨ op = 6 ∨ op = 7 ∨ op = 8 ∨ op = 9 ∨ op = 10 ∨ op = 11 ∨ op = 12:=by omega
 clear h1 h12
 obtain ⟨V,hV⟩ : ∃ V : Int,((if op = 5 then 6 else bindS op : Nat) : Int) = V:=⟨_,rfl⟩
 rw [hV]
 rcases h with rfl | rfl | rfl | rfl | rfl | rfl | rfl | rfl | rfl | rfl | rfl | rfl
 all_goals
  have HV:=keep hV
  clear hV
  go_enter Tryz.func131,Tryz.ntmps131
  go_wp2_with fail
  go_ret
  exact ⟨by rw [← HV.out]; rfl,Below.refl _ _⟩
theorem str_4 (vk vn r1 r2 r3 r4 op fn nn : Int) (s : ByteArray) (w : World) :
  Calls Tryz.prog 78 #[.agg #[.int .u8 4,.int .u8 vk,.int .i64 vn,.string s,.int .i64 r1,.int .i64 r2,.int .i64 r3,.int .i64 r4,.int .i64 op,.int .u8 fn,.int .i64 nn]] w fun e w' => e = .returned (.int .i64 5) ∧ Below w.heap.size w w':=by
 have H1:=Lib.hid ((Ok.start w).alloc w.heap.size 41 [.int .u8 4,.int .u8 vk,.int .i64 vn,.string s,.int .i64 r1,.int .i64 r2,.int .i64 r3,.int .i64 r4,.int .i64 op,.int .u8 fn,.int .i64 nn] rfl)
 go_enter Tryz.func78,Tryz.ntmps78
 go_wp2_with fail
 generalize (w.alloc (.cells #[.int .u8 4,.int .u8 vk,.int .i64 vn,.string s,.int .i64 r1,.int .i64 r2,.int .i64 r3,.int .i64 r4,.int .i64 op,.int .u8 fn,.int .i64 nn] 41)) = W2 at H1 ⊢
 go_ret
 exact ⟨rfl,H1.out.bel⟩
theorem str_5 (vk vn r1 r2 r3 r4 op fn nn : Int) (s : ByteArray) (w : World) :
  Calls Tryz.prog 78 #[.agg #[.int .u8 5,.int .u8 vk,.int .i64 vn,.string s,.int .i64 r1,.int .i64 r2,.int .i64 r3,.int .i64 r4,.int .i64 op,.int .u8 fn,.int .i64 nn]] w fun e w' => e = .returned (.int .i64 7) ∧ Below w.heap.size w w':=by
 have H1:=Lib.hid ((Ok.start w).alloc w.heap.size 41 [.int .u8 5,.int .u8 vk,.int .i64 vn,.string s,.int .i64 r1,.int .i64 r2,.int .i64 r3,.int .i64 r4,.int .i64 op,.int .u8 fn,.int .i64 nn] rfl)
 go_enter Tryz.func78,Tryz.ntmps78
 go_wp2_with fail
 generalize (w.alloc (.cells #[.int .u8 5,.int .u8 vk,.int .i64 vn,.string s,.int .i64 r1,.int .i64 r2,.int .i64 r3,.int .i64 r4,.int .i64 op,.int .u8 fn,.int .i64 nn] 41)) = W2 at H1 ⊢
 go_ret
 exact ⟨rfl,H1.out.bel⟩
theorem str_6 (vk vn r1 r2 r3 r4 op fn nn : Int) (s : ByteArray) (h1 : 1 ≤ op) (h12 : op ≤ 12) (w : World) :
  Calls Tryz.prog 78 #[.agg #[.int .u8 6,.int .u8 vk,.int .i64 vn,.string s,.int .i64 r1,.int .i64 r2,.int .i64 r3,.int .i64 r4,.int .i64 op,.int .u8 fn,.int .i64 nn]] w fun e w' => e = .returned (.int .i64 ((if op = 5 then 6 else bindS op : Nat) : Int)) ∧ Below w.heap.size w w':=by
 obtain ⟨B,hB⟩ : ∃ B : Int,((if op = 5 then 6 else bindS op : Nat) : Int) = B:=⟨_,rfl⟩
 have HBI:=keep (fun w2 : World => show Calls Tryz.prog 131 #[.int .i64 op] w2 fun e w' => e = .returned (.int .i64 B) ∧ Below w2.heap.size w2 w' by rw [← hB]; exact show_binary op h1 h12 w2)
 rw [hB]
 clear hB
 have H1:=Lib.hid ((Ok.start w).alloc w.heap.size 41 [.int .u8 6,.int .u8 vk,.int .i64 vn,.string s,.int .i64 r1,.int .i64 r2,.int .i64 r3,.int .i64 r4,.int .i64 op,.int .u8 fn,.int .i64 nn] rfl)
 go_enter Tryz.func78,Tryz.ntmps78
 go_wp2_with fail
 generalize (w.alloc (.cells #[.int .u8 6,.int .u8 vk,.int .i64 vn,.string s,.int .i64 r1,.int .i64 r2,.int .i64 r3,.int .i64 r4,.int .i64 op,.int .u8 fn,.int .i64 nn] 41)) = W2 at H1 ⊢
 refine (HBI.out _).mono ?_
 rintro e w3 ⟨rfl,hb4⟩
 have H5:=Lib.hid (H1.out.below hb4)
 clear hb4 H1
 have F6:=H5.out.sees
 simp only [sees,kBlk,cellsAt,Nat.reduceAdd] at F6
 obtain ⟨⟨z0,c0_0,c0_1,c0_2,c0_3,c0_4,c0_5,c0_6,c0_7,c0_8,c0_9,c0_10,-⟩,-⟩:=F6
 go_wp2_with fail
 go_ret
 exact ⟨rfl,H5.out.bel⟩
theorem str_8 (k : Int) (vk vn r1 r2 r3 r4 op fn nn : Int) (s : ByteArray) (h4 : (k == 4) = false) (h5 : (k == 5) = false) (h6 : (k == 6) = false) (w : World) :
  Calls Tryz.prog 78 #[.agg #[.int .u8 k,.int .u8 vk,.int .i64 vn,.string s,.int .i64 r1,.int .i64 r2,.int .i64 r3,.int .i64 r4,.int .i64 op,.int .u8 fn,.int .i64 nn]] w fun e w' => e = .returned (.int .i64 8) ∧ Below w.heap.size w w':=by
 have H1:=Lib.hid ((Ok.start w).alloc w.heap.size 41 [.int .u8 k,.int .u8 vk,.int .i64 vn,.string s,.int .i64 r1,.int .i64 r2,.int .i64 r3,.int .i64 r4,.int .i64 op,.int .u8 fn,.int .i64 nn] rfl)
 go_enter Tryz.func78,Tryz.ntmps78
 go_wp2_with fail
 generalize (w.alloc (.cells #[.int .u8 k,.int .u8 vk,.int .i64 vn,.string s,.int .i64 r1,.int .i64 r2,.int .i64 r3,.int .i64 r4,.int .i64 op,.int .u8 fn,.int .i64 nn] 41)) = W2 at H1 ⊢
 go_ret
 exact ⟨rfl,H1.out.bel⟩
theorem show_strength (n : Nd) (hg : goodNd n) (w : World) :
  Calls Tryz.prog 78 #[ndA n] w fun e w' => e = .returned (.int .i64 (strT n : Nat)) ∧ Below w.heap.size w w':=by
 obtain ⟨k,vk,vn,vt,⟨r1,r2,r3,r4⟩,op,fn,nn⟩:=n
 by_cases k4 : k = 4
 ·subst k4; exact str_4 vk vn r1 r2 r3 r4 op fn nn _ w
 by_cases k5 : k = 5
 ·subst k5; exact str_5 vk vn r1 r2 r3 r4 op fn nn _ w
 by_cases k6 : k = 6
 ·subst k6
  have hop : 1 ≤ op ∧ op ≤ 12:=by
   rcases hg with ⟨_,_,_,h,_⟩ | ⟨r,h,_⟩ | ⟨r,h,_⟩ | h | h | ⟨o,h,h1,h2⟩ | ⟨_,_,h,_⟩
   ·injection h with h; exact absurd h (by decide)
   ·injection h with h; exact absurd h (by decide)
   ·injection h with h; exact absurd h (by decide)
   ·injection h with h; exact absurd h (by decide)
   ·injection h with h; exact absurd h (by decide)
   ·injection h with _ _ _ _ _ h; subst h; exact ⟨h1,h2⟩
   ·injection h with h; exact absurd h (by decide)
  exact str_6 vk vn r1 r2 r3 r4 op fn nn _ hop.1 hop.2 w
 ·have e : strT ⟨k,vk,vn,vt,⟨r1,r2,r3,r4⟩,op,fn,nn⟩ = 8:=by
   unfold strT
   rw [if_neg k5,if_neg k4,if_neg k6]
  rw [e]
  exact str_8 k vk vn r1 r2 r3 r4 op fn nn _ (by simp; omega) (by simp; omega) (by simp; omega) w
-- names
theorem name_0 (w : World) : (Instr.index 209 (.agg namesV.toArray) (.int .u8 0)).run Tryz.prog w = .ok (.string ⟨(nameF 1).toArray⟩) w:=by kernel_rfl
theorem name_1 (w : World) : (Instr.index 209 (.agg namesV.toArray) (.int .u8 1)).run Tryz.prog w = .ok (.string ⟨(nameF 2).toArray⟩) w:=by kernel_rfl
theorem name_2 (w : World) : (Instr.index 209 (.agg namesV.toArray) (.int .u8 2)).run Tryz.prog w = .ok (.string ⟨(nameF 3).toArray⟩) w:=by kernel_rfl
theorem name_3 (w : World) : (Instr.index 209 (.agg namesV.toArray) (.int .u8 3)).run Tryz.prog w = .ok (.string ⟨(nameF 4).toArray⟩) w:=by kernel_rfl
theorem name_4 (w : World) : (Instr.index 209 (.agg namesV.toArray) (.int .u8 4)).run Tryz.prog w = .ok (.string ⟨(nameF 5).toArray⟩) w:=by kernel_rfl
theorem name_5 (w : World) : (Instr.index 209 (.agg namesV.toArray) (.int .u8 5)).run Tryz.prog w = .ok (.string ⟨(nameF 6).toArray⟩) w:=by kernel_rfl
theorem name_6 (w : World) : (Instr.index 209 (.agg namesV.toArray) (.int .u8 6)).run Tryz.prog w = .ok (.string ⟨(nameF 7).toArray⟩) w:=by kernel_rfl
theorem name_7 (w : World) : (Instr.index 209 (.agg namesV.toArray) (.int .u8 7)).run Tryz.prog w = .ok (.string ⟨(nameF 8).toArray⟩) w:=by kernel_rfl
theorem name_8 (w : World) : (Instr.index 209 (.agg namesV.toArray) (.int .u8 8)).run Tryz.prog w = .ok (.string ⟨(nameF 9).toArray⟩) w:=by kernel_rfl
theorem name_9 (w : World) : (Instr.index 209 (.agg namesV.toArray) (.int .u8 9)).run Tryz.prog w = .ok (.string ⟨(nameF 10).toArray⟩) w:=by kernel_rfl
theorem name_10 (w : World) : (Instr.index 209 (.agg namesV.toArray) (.int .u8 10)).run Tryz.prog w = .ok (.string ⟨(nameF 11).toArray⟩) w:=by kernel_rfl
theorem name_11 (w : World) : (Instr.index 209 (.agg namesV.toArray) (.int .u8 11)).run Tryz.prog w = .ok (.string ⟨(nameF 12).toArray⟩) w:=by kernel_rfl
theorem name_12 (w : World) : (Instr.index 209 (.agg namesV.toArray) (.int .u8 12)).run Tryz.prog w = .ok (.string ⟨(nameF 13).toArray⟩) w:=by kernel_rfl
theorem name_13 (w : World) : (Instr.index 209 (.agg namesV.toArray) (.int .u8 13)).run Tryz.prog w = .ok (.string ⟨(nameF 14).toArray⟩) w:=by kernel_rfl
theorem name_14 (w : World) : (Instr.index 209 (.agg namesV.toArray) (.int .u8 14)).run Tryz.prog w = .ok (.string ⟨(nameF 15).toArray⟩) w:=by kernel_rfl
theorem name_15 (w : World) : (Instr.index 209 (.agg namesV.toArray) (.int .u8 15)).run Tryz.prog w = .ok (.string ⟨(nameF 16).toArray⟩) w:=by kernel_rfl
theorem name_16 (w : World) : (Instr.index 209 (.agg namesV.toArray) (.int .u8 16)).run Tryz.prog w = .ok (.string ⟨(nameF 17).toArray⟩) w:=by kernel_rfl
theorem name_17 (w : World) : (Instr.index 209 (.agg namesV.toArray) (.int .u8 17)).run Tryz.prog w = .ok (.string ⟨(nameF 18).toArray⟩) w:=by kernel_rfl
theorem name_18 (w : World) : (Instr.index 209 (.agg namesV.toArray) (.int .u8 18)).run Tryz.prog w = .ok (.string ⟨(nameF 19).toArray⟩) w:=by kernel_rfl
theorem name_19 (w : World) : (Instr.index 209 (.agg namesV.toArray) (.int .u8 19)).run Tryz.prog w = .ok (.string ⟨(nameF 20).toArray⟩) w:=by kernel_rfl
theorem name_20 (w : World) : (Instr.index 209 (.agg namesV.toArray) (.int .u8 20)).run Tryz.prog w = .ok (.string ⟨(nameF 21).toArray⟩) w:=by kernel_rfl
theorem name_21 (w : World) : (Instr.index 209 (.agg namesV.toArray) (.int .u8 21)).run Tryz.prog w = .ok (.string ⟨(nameF 22).toArray⟩) w:=by kernel_rfl
theorem name_22 (w : World) : (Instr.index 209 (.agg namesV.toArray) (.int .u8 22)).run Tryz.prog w = .ok (.string ⟨(nameF 23).toArray⟩) w:=by kernel_rfl
theorem name_23 (w : World) : (Instr.index 209 (.agg namesV.toArray) (.int .u8 23)).run Tryz.prog w = .ok (.string ⟨(nameF 24).toArray⟩) w:=by kernel_rfl
theorem name_24 (w : World) : (Instr.index 209 (.agg namesV.toArray) (.int .u8 24)).run Tryz.prog w = .ok (.string ⟨(nameF 25).toArray⟩) w:=by kernel_rfl
theorem name_25 (w : World) : (Instr.index 209 (.agg namesV.toArray) (.int .u8 25)).run Tryz.prog w = .ok (.string ⟨(nameF 26).toArray⟩) w:=by kernel_rfl
theorem name_26 (w : World) : (Instr.index 209 (.agg namesV.toArray) (.int .u8 26)).run Tryz.prog w = .ok (.string ⟨(nameF 27).toArray⟩) w:=by kernel_rfl
theorem name_27 (w : World) : (Instr.index 209 (.agg namesV.toArray) (.int .u8 27)).run Tryz.prog w = .ok (.string ⟨(nameF 28).toArray⟩) w:=by kernel_rfl
theorem name_28 (w : World) : (Instr.index 209 (.agg namesV.toArray) (.int .u8 28)).run Tryz.prog w = .ok (.string ⟨(nameF 29).toArray⟩) w:=by kernel_rfl
theorem name_29 (w : World) : (Instr.index 209 (.agg namesV.toArray) (.int .u8 29)).run Tryz.prog w = .ok (.string ⟨(nameF 30).toArray⟩) w:=by kernel_rfl
theorem name_30 (w : World) : (Instr.index 209 (.agg namesV.toArray) (.int .u8 30)).run Tryz.prog w = .ok (.string ⟨(nameF 31).toArray⟩) w:=by kernel_rfl
theorem name_31 (w : World) : (Instr.index 209 (.agg namesV.toArray) (.int .u8 31)).run Tryz.prog w = .ok (.string ⟨(nameF 32).toArray⟩) w:=by kernel_rfl
theorem name_32 (w : World) : (Instr.index 209 (.agg namesV.toArray) (.int .u8 32)).run Tryz.prog w = .ok (.string ⟨(nameF 33).toArray⟩) w:=by kernel_rfl
theorem name_33 (w : World) : (Instr.index 209 (.agg namesV.toArray) (.int .u8 33)).run Tryz.prog w = .ok (.string ⟨(nameF 34).toArray⟩) w:=by kernel_rfl
theorem name_34 (w : World) : (Instr.index 209 (.agg namesV.toArray) (.int .u8 34)).run Tryz.prog w = .ok (.string ⟨(nameF 35).toArray⟩) w:=by kernel_rfl
theorem name_35 (w : World) : (Instr.index 209 (.agg namesV.toArray) (.int .u8 35)).run Tryz.prog w = .ok (.string ⟨(nameF 36).toArray⟩) w:=by kernel_rfl
theorem name_36 (w : World) : (Instr.index 209 (.agg namesV.toArray) (.int .u8 36)).run Tryz.prog w = .ok (.string ⟨(nameF 37).toArray⟩) w:=by kernel_rfl
theorem name_37 (w : World) : (Instr.index 209 (.agg namesV.toArray) (.int .u8 37)).run Tryz.prog w = .ok (.string ⟨(nameF 38).toArray⟩) w:=by kernel_rfl
theorem name_38 (w : World) : (Instr.index 209 (.agg namesV.toArray) (.int .u8 38)).run Tryz.prog w = .ok (.string ⟨(nameF 39).toArray⟩) w:=by kernel_rfl
theorem name_39 (w : World) : (Instr.index 209 (.agg namesV.toArray) (.int .u8 39)).run Tryz.prog w = .ok (.string ⟨(nameF 40).toArray⟩) w:=by kernel_rfl
theorem name_40 (w : World) : (Instr.index 209 (.agg namesV.toArray) (.int .u8 40)).run Tryz.prog w = .ok (.string ⟨(nameF 41).toArray⟩) w:=by kernel_rfl
theorem name_41 (w : World) : (Instr.index 209 (.agg namesV.toArray) (.int .u8 41)).run Tryz.prog w = .ok (.string ⟨(nameF 42).toArray⟩) w:=by kernel_rfl
theorem name_42 (w : World) : (Instr.index 209 (.agg namesV.toArray) (.int .u8 42)).run Tryz.prog w = .ok (.string ⟨(nameF 43).toArray⟩) w:=by kernel_rfl
theorem name_43 (w : World) : (Instr.index 209 (.agg namesV.toArray) (.int .u8 43)).run Tryz.prog w = .ok (.string ⟨(nameF 44).toArray⟩) w:=by kernel_rfl
theorem name_44 (w : World) : (Instr.index 209 (.agg namesV.toArray) (.int .u8 44)).run Tryz.prog w = .ok (.string ⟨(nameF 45).toArray⟩) w:=by kernel_rfl
theorem name_45 (w : World) : (Instr.index 209 (.agg namesV.toArray) (.int .u8 45)).run Tryz.prog w = .ok (.string ⟨(nameF 46).toArray⟩) w:=by kernel_rfl
theorem name_46 (w : World) : (Instr.index 209 (.agg namesV.toArray) (.int .u8 46)).run Tryz.prog w = .ok (.string ⟨(nameF 47).toArray⟩) w:=by kernel_rfl
theorem name_47 (w : World) : (Instr.index 209 (.agg namesV.toArray) (.int .u8 47)).run Tryz.prog w = .ok (.string ⟨(nameF 48).toArray⟩) w:=by kernel_rfl
theorem name_48 (w : World) : (Instr.index 209 (.agg namesV.toArray) (.int .u8 48)).run Tryz.prog w = .ok (.string ⟨(nameF 49).toArray⟩) w:=by kernel_rfl
theorem name_49 (w : World) : (Instr.index 209 (.agg namesV.toArray) (.int .u8 49)).run Tryz.prog w = .ok (.string ⟨(nameF 50).toArray⟩) w:=by kernel_rfl
theorem names_at (fn : Nat) (h1 : 1 ≤ fn) (h50 : fn ≤ 50) (w : World) : (Instr.index 209 (.agg namesV.toArray) (.int .u8 ((fn : Int) - 1))).run Tryz.prog w = .ok (.string ⟨(nameF fn).toArray⟩) w:=by
 obtain ⟨j,rfl⟩ : ∃ j,fn = j + 1:=⟨fn - 1,by omega⟩
 rw [show (((j + 1 : Nat) : Int) - 1) = (j : Int) by omega]
 match j,(show j < 50 by omega) with
 | 0,_ => exact name_0 w
 | 1,_ => exact name_1 w
 | 2,_ => exact name_2 w
 | 3,_ => exact name_3 w
 | 4,_ => exact name_4 w
 | 5,_ => exact name_5 w
 | 6,_ => exact name_6 w
 | 7,_ => exact name_7 w
 | 8,_ => exact name_8 w
 | 9,_ => exact name_9 w
 | 10,_ => exact name_10 w
 | 11,_ => exact name_11 w
 | 12,_ => exact name_12 w
 | 13,_ => exact name_13 w
 | 14,_ => exact name_14 w
 | 15,_ => exact name_15 w
 | 16,_ => exact name_16 w
 | 17,_ => exact name_17 w
 | 18,_ => exact name_18 w
 | 19,_ => exact name_19 w
 | 20,_ => exact name_20 w
 | 21,_ => exact name_21 w
 | 22,_ => exact name_22 w
 | 23,_ => exact name_23 w
 | 24,_ => exact name_24 w
 | 25,_ => exact name_25 w
 | 26,_ => exact name_26 w
 | 27,_ => exact name_27 w
 | 28,_ => exact name_28 w
 | 29,_ => exact name_29 w
 | 30,_ => exact name_30 w
 | 31,_ => exact name_31 w
 | 32,_ => exact name_32 w
 | 33,_ => exact name_33 w
 | 34,_ => exact name_34 w
 | 35,_ => exact name_35 w
 | 36,_ => exact name_36 w
 | 37,_ => exact name_37 w
 | 38,_ => exact name_38 w
 | 39,_ => exact name_39 w
 | 40,_ => exact name_40 w
 | 41,_ => exact name_41 w
 | 42,_ => exact name_42 w
 | 43,_ => exact name_43 w
 | 44,_ => exact name_44 w
 | 45,_ => exact name_45 w
 | 46,_ => exact name_46 w
 | 47,_ => exact name_47 w
 | 48,_ => exact name_48 w
 | 49,_ => exact name_49 w
 | n + 50,h => omega
theorem tree_Name (fn : Nat) (h1 : 1 ≤ fn) (h50 : fn ≤ 50) (w : World) :
  Calls Tryz.prog 134 #[.int .u8 (fn : Nat)] w fun e w' => e = .returned (.tuple #[.string ⟨(nameF fn).toArray⟩,.int .i64 0]) ∧ Below w.heap.size w w':=by
 have HN:=names_at fn h1 h50
 have hw8 : IntKind.u8.wrap ((fn : Int) - 1) = (fn : Int) - 1:=Go.IntWalk.u8_in _ (by omega)
 obtain ⟨NV,hNV⟩ : ∃ NV,namesV.toArray = NV:=⟨_,rfl⟩
 rw [hNV] at HN
 have HTN:=keep (fun w2 : World => show Calls Tryz.prog 189 #[] w2 fun e w' => e = .returned (.agg NV) ∧ Below w2.heap.size w2 w' by rw [← hNV]; exact tree_names w2)
 clear hNV
 obtain ⟨X,hX⟩ : ∃ X,nameF fn = X:=⟨_,rfl⟩
 rw [hX] at HN ⊢
 clear hX
 go_enter Tryz.func134,Tryz.ntmps134
 go_wp2_with fail
 refine (tree_known fn _ h1 h50).mono ?_
 rintro e w1 ⟨rfl,hw⟩
 obtain rfl : w = w1:=hw.symm
 go_wp2_with fail
 refine (HTN.out _).mono ?_
 rintro e w2 ⟨rfl,hb⟩
 have HB:=Lib.hid hb
 clear hb
 go_wp2_with fail
 exact bodyPost_ret (v:=.tuple #[.string ⟨X.toArray⟩,.int .i64 0]) (by simp [results,Tryz.results134,go_sem]) rfl ⟨rfl,HB.out⟩
end Go.Proofs.YtnbemkiplnanlaaGreatDoor
