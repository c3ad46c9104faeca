/- The reference's tables: Name, Function, Arity, Wide. -/
import Derived.Test.YtlngjiibbcgkmaaGreatDoorParD2
import Derived.Test.YtlngjiibbcgkmaaGreatDoorOk
import Derived.Deep.LoopGhost
namespace Go.Proofs.YtlngjiibbcgkmaaGreatDoor
open Go.RowKit
def nameS8 (fn : Nat) : List UInt8:=(([] :: fnNames)[fn]?).getD []
theorem names8_eq : (#[.string ⟨#[]⟩,.string ⟨#[65,66,83]⟩,.string ⟨#[83,73,71,78]⟩,.string ⟨#[73,78,84]⟩,.string ⟨#[84,82,85,78,67]⟩,.string ⟨#[82,79,85,78,68]⟩,.string ⟨#[77,79,68]⟩,.string ⟨#[80,79,87,69,82]⟩,.string ⟨#[83,81,82,84]⟩,.string ⟨#[83,85,77]⟩,.string ⟨#[80,82,79,68,85,67,84]⟩,.string ⟨#[67,79,85,78,84]⟩,.string ⟨#[67,79,85,78,84,65]⟩,.string ⟨#[67,79,85,78,84,66,76,65,78,75]⟩,.string ⟨#[65,86,69,82,65,71,69]⟩,.string ⟨#[77,73,78]⟩,.string ⟨#[77,65,88]⟩,.string ⟨#[77,69,68,73,65,78]⟩,.string ⟨#[76,65,82,71,69]⟩,.string ⟨#[83,77,65,76,76]⟩,.string ⟨#[73,70]⟩,.string ⟨#[65,78,68]⟩,.string ⟨#[79,82]⟩,.string ⟨#[88,79,82]⟩,.string ⟨#[78,79,84]⟩,.string ⟨#[73,70,69,82,82,79,82]⟩,.string ⟨#[73,83,69,82,82,79,82]⟩,.string ⟨#[73,83,66,76,65,78,75]⟩,.string ⟨#[73,83,78,85,77,66,69,82]⟩,.string ⟨#[73,83,84,69,88,84]⟩,.string ⟨#[67,72,79,79,83,69]⟩,.string ⟨#[76,69,78]⟩,.string ⟨#[76,69,70,84]⟩,.string ⟨#[82,73,71,72,84]⟩,.string ⟨#[77,73,68]⟩,.string ⟨#[85,80,80,69,82]⟩,.string ⟨#[76,79,87,69,82]⟩,.string ⟨#[84,82,73,77]⟩,.string ⟨#[67,79,78,67,65,84]⟩,.string ⟨#[82,69,80,84]⟩,.string ⟨#[69,88,65,67,84]⟩,.string ⟨#[70,73,78,68]⟩,.string ⟨#[86,65,76,85,69]⟩,.string ⟨#[73,78,68,69,88]⟩,.string ⟨#[77,65,84,67,72]⟩,.string ⟨#[67,79,85,78,84,73,70]⟩,.string ⟨#[68,83,85,77]⟩,.string ⟨#[68,67,79,85,78,84]⟩,.string ⟨#[68,65,86,71]⟩,.string ⟨#[68,77,73,78]⟩,.string ⟨#[68,77,65,88]⟩] : Array Value) = (([] :: fnNames).map fun x => Value.string ⟨x.toArray⟩).toArray:=by kernel_rfl
theorem names8_at (fn : Nat) (h : fn ≤ 50) : (#[.string ⟨#[]⟩,.string ⟨#[65,66,83]⟩,.string ⟨#[83,73,71,78]⟩,.string ⟨#[73,78,84]⟩,.string ⟨#[84,82,85,78,67]⟩,.string ⟨#[82,79,85,78,68]⟩,.string ⟨#[77,79,68]⟩,.string ⟨#[80,79,87,69,82]⟩,.string ⟨#[83,81,82,84]⟩,.string ⟨#[83,85,77]⟩,.string ⟨#[80,82,79,68,85,67,84]⟩,.string ⟨#[67,79,85,78,84]⟩,.string ⟨#[67,79,85,78,84,65]⟩,.string ⟨#[67,79,85,78,84,66,76,65,78,75]⟩,.string ⟨#[65,86,69,82,65,71,69]⟩,.string ⟨#[77,73,78]⟩,.string ⟨#[77,65,88]⟩,.string ⟨#[77,69,68,73,65,78]⟩,.string ⟨#[76,65,82,71,69]⟩,.string ⟨#[83,77,65,76,76]⟩,.string ⟨#[73,70]⟩,.string ⟨#[65,78,68]⟩,.string ⟨#[79,82]⟩,.string ⟨#[88,79,82]⟩,.string ⟨#[78,79,84]⟩,.string ⟨#[73,70,69,82,82,79,82]⟩,.string ⟨#[73,83,69,82,82,79,82]⟩,.string ⟨#[73,83,66,76,65,78,75]⟩,.string ⟨#[73,83,78,85,77,66,69,82]⟩,.string ⟨#[73,83,84,69,88,84]⟩,.string ⟨#[67,72,79,79,83,69]⟩,.string ⟨#[76,69,78]⟩,.string ⟨#[76,69,70,84]⟩,.string ⟨#[82,73,71,72,84]⟩,.string ⟨#[77,73,68]⟩,.string ⟨#[85,80,80,69,82]⟩,.string ⟨#[76,79,87,69,82]⟩,.string ⟨#[84,82,73,77]⟩,.string ⟨#[67,79,78,67,65,84]⟩,.string ⟨#[82,69,80,84]⟩,.string ⟨#[69,88,65,67,84]⟩,.string ⟨#[70,73,78,68]⟩,.string ⟨#[86,65,76,85,69]⟩,.string ⟨#[73,78,68,69,88]⟩,.string ⟨#[77,65,84,67,72]⟩,.string ⟨#[67,79,85,78,84,73,70]⟩,.string ⟨#[68,83,85,77]⟩,.string ⟨#[68,67,79,85,78,84]⟩,.string ⟨#[68,65,86,71]⟩,.string ⟨#[68,77,73,78]⟩,.string ⟨#[68,77,65,88]⟩] : Array Value)[fn]? = some (.string ⟨(nameS8 fn).toArray⟩):=by
 rw [names8_eq,List.getElem?_toArray,List.getElem?_map]
 have hl : fn < ([] :: fnNames).length:=by show fn < 51; omega
 unfold nameS8
 rw [List.getElem?_eq_getElem hl]
 rfl
theorem name8_succ (k : Nat) (h : k < 50) : nameS8 (k + 1) = fnNames[k]'(by show k < 50; exact h):=by
 unfold nameS8
 rw [List.getElem?_cons_succ,List.getElem?_eq_getElem (by show k < 50; exact h)]
 rfl
theorem fn8_hit (x : List UInt8) (k : Nat) (h1 : 1 ≤ k) (h2 : k ≤ 50) (hb : ∀ j,1 ≤ j → j < k → nameS8 j ≠ x) (hk : nameS8 k = x) : fnS x = k:=by
 obtain ⟨j,rfl⟩ : ∃ j,k = j + 1:=⟨k - 1,by omega⟩
 have h:=idxS_at fnNames x j (by show j < 50; omega) (fun y hy => by
  rw [List.mem_take_iff_getElem] at hy
  obtain ⟨i,hi,rfl⟩:=hy
  have hi2 : i < j:=by omega
  have:=hb (i + 1) (by omega) (by omega)
  rw [name8_succ i (by omega)] at this
  exact this) (by rw [← name8_succ j (by omega)]; exact hk)
 rw [fn_idx] at h
 split at h <;> omega
theorem fn8_miss (x : List UInt8) (hb : ∀ j,1 ≤ j → j ≤ 50 → nameS8 j ≠ x) : fnS x = 0:=by
 have h:=idxS_no fnNames x (fun y hy => by
  obtain ⟨i,hi,rfl⟩:=List.mem_iff_getElem.1 hy
  have hi2 : i < 50:=hi
  have:=hb (i + 1) (by omega) (by omega)
  rw [name8_succ i hi2] at this
  exact this)
 rw [fn_idx] at h
 split at h
 ·assumption
 ·omega
set_option maxRecDepth 100000 in
set_option maxHeartbeats 4000000 in
theorem r8_Name (fn : Nat) (w : World) (h : fn ≤ 50) :
  Calls Tryz.prog 137 #[.int .u8 (fn : Nat)] w fun e w' => e = .returned (.string ⟨(nameS8 fn).toArray⟩) ∧ Below w.heap.size w w':=by
 obtain ⟨W1,hW1⟩ : ∃ W1,W1 = (w.alloc (.cells #[.string ⟨#[]⟩,.string ⟨#[65,66,83]⟩,.string ⟨#[83,73,71,78]⟩,.string ⟨#[73,78,84]⟩,.string ⟨#[84,82,85,78,67]⟩,.string ⟨#[82,79,85,78,68]⟩,.string ⟨#[77,79,68]⟩,.string ⟨#[80,79,87,69,82]⟩,.string ⟨#[83,81,82,84]⟩,.string ⟨#[83,85,77]⟩,.string ⟨#[80,82,79,68,85,67,84]⟩,.string ⟨#[67,79,85,78,84]⟩,.string ⟨#[67,79,85,78,84,65]⟩,.string ⟨#[67,79,85,78,84,66,76,65,78,75]⟩,.string ⟨#[65,86,69,82,65,71,69]⟩,.string ⟨#[77,73,78]⟩,.string ⟨#[77,65,88]⟩,.string ⟨#[77,69,68,73,65,78]⟩,.string ⟨#[76,65,82,71,69]⟩,.string ⟨#[83,77,65,76,76]⟩,.string ⟨#[73,70]⟩,.string ⟨#[65,78,68]⟩,.string ⟨#[79,82]⟩,.string ⟨#[88,79,82]⟩,.string ⟨#[78,79,84]⟩,.string ⟨#[73,70,69,82,82,79,82]⟩,.string ⟨#[73,83,69,82,82,79,82]⟩,.string ⟨#[73,83,66,76,65,78,75]⟩,.string ⟨#[73,83,78,85,77,66,69,82]⟩,.string ⟨#[73,83,84,69,88,84]⟩,.string ⟨#[67,72,79,79,83,69]⟩,.string ⟨#[76,69,78]⟩,.string ⟨#[76,69,70,84]⟩,.string ⟨#[82,73,71,72,84]⟩,.string ⟨#[77,73,68]⟩,.string ⟨#[85,80,80,69,82]⟩,.string ⟨#[76,79,87,69,82]⟩,.string ⟨#[84,82,73,77]⟩,.string ⟨#[67,79,78,67,65,84]⟩,.string ⟨#[82,69,80,84]⟩,.string ⟨#[69,88,65,67,84]⟩,.string ⟨#[70,73,78,68]⟩,.string ⟨#[86,65,76,85,69]⟩,.string ⟨#[73,78,68,69,88]⟩,.string ⟨#[77,65,84,67,72]⟩,.string ⟨#[67,79,85,78,84,73,70]⟩,.string ⟨#[68,83,85,77]⟩,.string ⟨#[68,67,79,85,78,84]⟩,.string ⟨#[68,65,86,71]⟩,.string ⟨#[68,77,73,78]⟩,.string ⟨#[68,77,65,88]⟩] 9)):=⟨_,rfl⟩
 have HP : Below w.heap.size w W1 ∧ Blk W1 w.heap.size 9 #[.string ⟨#[]⟩,.string ⟨#[65,66,83]⟩,.string ⟨#[83,73,71,78]⟩,.string ⟨#[73,78,84]⟩,.string ⟨#[84,82,85,78,67]⟩,.string ⟨#[82,79,85,78,68]⟩,.string ⟨#[77,79,68]⟩,.string ⟨#[80,79,87,69,82]⟩,.string ⟨#[83,81,82,84]⟩,.string ⟨#[83,85,77]⟩,.string ⟨#[80,82,79,68,85,67,84]⟩,.string ⟨#[67,79,85,78,84]⟩,.string ⟨#[67,79,85,78,84,65]⟩,.string ⟨#[67,79,85,78,84,66,76,65,78,75]⟩,.string ⟨#[65,86,69,82,65,71,69]⟩,.string ⟨#[77,73,78]⟩,.string ⟨#[77,65,88]⟩,.string ⟨#[77,69,68,73,65,78]⟩,.string ⟨#[76,65,82,71,69]⟩,.string ⟨#[83,77,65,76,76]⟩,.string ⟨#[73,70]⟩,.string ⟨#[65,78,68]⟩,.string ⟨#[79,82]⟩,.string ⟨#[88,79,82]⟩,.string ⟨#[78,79,84]⟩,.string ⟨#[73,70,69,82,82,79,82]⟩,.string ⟨#[73,83,69,82,82,79,82]⟩,.string ⟨#[73,83,66,76,65,78,75]⟩,.string ⟨#[73,83,78,85,77,66,69,82]⟩,.string ⟨#[73,83,84,69,88,84]⟩,.string ⟨#[67,72,79,79,83,69]⟩,.string ⟨#[76,69,78]⟩,.string ⟨#[76,69,70,84]⟩,.string ⟨#[82,73,71,72,84]⟩,.string ⟨#[77,73,68]⟩,.string ⟨#[85,80,80,69,82]⟩,.string ⟨#[76,79,87,69,82]⟩,.string ⟨#[84,82,73,77]⟩,.string ⟨#[67,79,78,67,65,84]⟩,.string ⟨#[82,69,80,84]⟩,.string ⟨#[69,88,65,67,84]⟩,.string ⟨#[70,73,78,68]⟩,.string ⟨#[86,65,76,85,69]⟩,.string ⟨#[73,78,68,69,88]⟩,.string ⟨#[77,65,84,67,72]⟩,.string ⟨#[67,79,85,78,84,73,70]⟩,.string ⟨#[68,83,85,77]⟩,.string ⟨#[68,67,79,85,78,84]⟩,.string ⟨#[68,65,86,71]⟩,.string ⟨#[68,77,73,78]⟩,.string ⟨#[68,77,65,88]⟩]:=by
  rw [hW1]
  have h9:=(Ok.start w).alloc w.heap.size 9 [.string ⟨#[]⟩,.string ⟨#[65,66,83]⟩,.string ⟨#[83,73,71,78]⟩,.string ⟨#[73,78,84]⟩,.string ⟨#[84,82,85,78,67]⟩,.string ⟨#[82,79,85,78,68]⟩,.string ⟨#[77,79,68]⟩,.string ⟨#[80,79,87,69,82]⟩,.string ⟨#[83,81,82,84]⟩,.string ⟨#[83,85,77]⟩,.string ⟨#[80,82,79,68,85,67,84]⟩,.string ⟨#[67,79,85,78,84]⟩,.string ⟨#[67,79,85,78,84,65]⟩,.string ⟨#[67,79,85,78,84,66,76,65,78,75]⟩,.string ⟨#[65,86,69,82,65,71,69]⟩,.string ⟨#[77,73,78]⟩,.string ⟨#[77,65,88]⟩,.string ⟨#[77,69,68,73,65,78]⟩,.string ⟨#[76,65,82,71,69]⟩,.string ⟨#[83,77,65,76,76]⟩,.string ⟨#[73,70]⟩,.string ⟨#[65,78,68]⟩,.string ⟨#[79,82]⟩,.string ⟨#[88,79,82]⟩,.string ⟨#[78,79,84]⟩,.string ⟨#[73,70,69,82,82,79,82]⟩,.string ⟨#[73,83,69,82,82,79,82]⟩,.string ⟨#[73,83,66,76,65,78,75]⟩,.string ⟨#[73,83,78,85,77,66,69,82]⟩,.string ⟨#[73,83,84,69,88,84]⟩,.string ⟨#[67,72,79,79,83,69]⟩,.string ⟨#[76,69,78]⟩,.string ⟨#[76,69,70,84]⟩,.string ⟨#[82,73,71,72,84]⟩,.string ⟨#[77,73,68]⟩,.string ⟨#[85,80,80,69,82]⟩,.string ⟨#[76,79,87,69,82]⟩,.string ⟨#[84,82,73,77]⟩,.string ⟨#[67,79,78,67,65,84]⟩,.string ⟨#[82,69,80,84]⟩,.string ⟨#[69,88,65,67,84]⟩,.string ⟨#[70,73,78,68]⟩,.string ⟨#[86,65,76,85,69]⟩,.string ⟨#[73,78,68,69,88]⟩,.string ⟨#[77,65,84,67,72]⟩,.string ⟨#[67,79,85,78,84,73,70]⟩,.string ⟨#[68,83,85,77]⟩,.string ⟨#[68,67,79,85,78,84]⟩,.string ⟨#[68,65,86,71]⟩,.string ⟨#[68,77,73,78]⟩,.string ⟨#[68,77,65,88]⟩] rfl
  exact ⟨h9.bel,h9.all _ (List.mem_cons_self ..)⟩
 dsimp only at hW1
 have HW1:=keep hW1
 clear hW1
 have HPP:=keep HP
 clear HP
 have HN:=keep (names8_at fn h)
 obtain ⟨x,hx⟩ : ∃ x,(nameS8 fn).toArray = x:=⟨_,rfl⟩
 rw [hx] at HN ⊢
 clear hx
 have hfi : ¬ (51 : Int) ≤ (fn : Int):=by omega
 go_enter Tryz.func137,Tryz.ntmps137
 go_upto_region 2 with fail
 rw [← HW1.out]
 obtain ⟨hbel,hblk⟩:=HPP.out
 clear HPP HW1
 have hlt:=hblk.lt
 have hcell:=(hblk.cell fn).trans HN.out
 have HB:=Lib.hid hbel
 clear hblk hbel HN
 go_wp2_with fail
 go_ret
 exact ⟨rfl,HB.out⟩
set_option maxRecDepth 100000 in
set_option maxHeartbeats 4000000 in
theorem r8_Function (x : List UInt8) (w : World) :
  Calls Tryz.prog 182 #[.string ⟨x.toArray⟩] w fun e w' => e = .returned (.tuple #[.int .u8 (fnS x : Nat),.int .i64 (fnE x)]) ∧ Below w.heap.size w w':=by
 obtain ⟨R,hR⟩ : ∃ R,fnS x = R:=⟨_,rfl⟩
 obtain ⟨E,hE⟩ : ∃ E,fnE x = E:=⟨_,rfl⟩
 rw [hR,hE]
 have HRR:=keep hR
 have HE:=keep hE
 clear hR hE
 have HB:=Lib.hid (Below.refl w.heap.size w)
 go_enter Tryz.func182,Tryz.ntmps182
 go_wp2_with fail
 go_loopg [4] 50 (fun gf nv wr => ∃ k : Nat,gf = 51 - k ∧ nv = .int .u8 (k : Int) ∧ 1 ≤ k ∧ k ≤ 51 ∧ Keep (∀ j,1 ≤ j → j < k → nameS8 j ≠ x) ∧ Hid (Below w.heap.size w wr))
 case atStart => exact ⟨1,rfl,rfl,by omega,by omega,keep (fun j h1 h2 => by omega),HB⟩
 case round =>
  clear HB
  obtain ⟨k,hg,rfl,hk1,hk2,HK,HRW⟩:=hrel
  obtain ⟨wp,rfl⟩ : ∃ wp : World,wp = wr:=⟨_,rfl⟩
  subst hg
  by_cases h51 : k = 51
  ·subst h51
   have h0:=fn8_miss x (fun j h1 h2 => HK.out j h1 (by omega))
   have hE2 : E = 6:=by rw [← HE.out]; unfold fnE; rw [if_pos h0]
   have hR2 : R = 0:=by rw [← HRR.out]; exact h0
   subst hE2 hR2
   clear h0 HE HRR
   go_wp2_with fail
   exact bodyPost_ret (v:=.tuple #[.int .u8 0,.int .i64 6]) (by simp [results,Tryz.results182,go_sem]) rfl ⟨rfl,HRW.out⟩
  ·have hk3 : k ≤ 50:=by omega
   have hki : (k : Int) ≤ 50:=by omega
   have HN:=keep (fun W => r8_Name k W hk3)
   obtain ⟨y,hy⟩ : ∃ y,nameS8 k = y:=⟨_,rfl⟩
   rw [hy] at HN
   have HY:=keep hy
   clear hy
   by_cases hxy : y = x
   ·subst hxy
    have h0:=fn8_hit y k hk1 hk3 HK.out HY.out
    have hE2 : E = 0:=by rw [← HE.out]; unfold fnE; rw [if_neg (by omega)]
    have hR2 : R = k:=by rw [← HRR.out]; exact h0
    subst hE2 hR2
    clear h0 HE HRR
    go_wp2_with fail
    refine (HN.out _).mono ?_
    rintro e w7 ⟨rfl,hb⟩
    have HB7:=Lib.hid (HRW.out.trans (hb.mono HRW.out.size))
    clear hb HRW HN
    go_wp2_with fail
    exact bodyPost_ret (v:=.tuple #[.int .u8 (R : Nat),.int .i64 0]) (by simp [results,Tryz.results182,go_sem]) rfl ⟨rfl,HB7.out⟩
   ·have HNE:=keep hxy
    have hb1 : (x == y) = false:=by simpa using fun e => hxy e.symm
    have hb2 : (y == x) = false:=by simpa using hxy
    clear hxy h51
    go_wp2_with fail
    refine (HN.out _).mono ?_
    rintro e w7 ⟨rfl,hb⟩
    have HB7:=Lib.hid (HRW.out.trans (hb.mono HRW.out.size))
    clear hb HRW HN
    go_wp2_with fail
    go_roundg (51 - (k + 1))
    case rel =>
     refine ⟨k + 1,rfl,rfl,by omega,by omega,keep (fun j h1 h2 => ?_),HB7⟩
     rcases Nat.lt_or_ge j k with h9 | h9
     ·exact HK.out j h1 h9
     ·obtain rfl : j = k:=by omega
      rw [HY.out]
      exact HNE.out
    case measure => omega
set_option maxRecDepth 100000 in
set_option maxHeartbeats 4000000 in
theorem r8_Arity (fn : Nat) (w : World) :
  Calls Tryz.prog 138 #[.int .u8 (fn : Nat)] w fun e w' => e = .returned (.tuple #[.int .i64 ((arS fn).1 : Nat),.int .i64 ((arS fn).2 : Nat)]) ∧ w' = w:=by
 go_enter Tryz.func138,Tryz.ntmps138
 go_wp2_with fail
 all_goals simp only [beq_iff_eq,beq_eq_false_iff_ne,ne_eq] at *
 all_goals
  first
  | exact bodyPost_ret (v:=.tuple #[.int .i64 2,.int .i64 2]) (by simp [results,Tryz.results138,go_sem]) rfl ⟨by rw [ar_22 fn (by omega)]; rfl,rfl⟩
  | exact bodyPost_ret (v:=.tuple #[.int .i64 2,.int .i64 3]) (by simp [results,Tryz.results138,go_sem]) rfl ⟨by rw [ar_23 fn (by omega)]; rfl,rfl⟩
  | exact bodyPost_ret (v:=.tuple #[.int .i64 1,.int .i64 2]) (by simp [results,Tryz.results138,go_sem]) rfl ⟨by rw [ar_12 fn (by omega)]; rfl,rfl⟩
  | exact bodyPost_ret (v:=.tuple #[.int .i64 3,.int .i64 3]) (by simp [results,Tryz.results138,go_sem]) rfl ⟨by rw [ar_33 fn (by omega)]; rfl,rfl⟩
  | exact bodyPost_ret (v:=.tuple #[.int .i64 1,.int .i64 16]) (by simp [results,Tryz.results138,go_sem]) rfl ⟨by rw [ar_1m fn (by omega)]; rfl,rfl⟩
  | exact bodyPost_ret (v:=.tuple #[.int .i64 2,.int .i64 16]) (by simp [results,Tryz.results138,go_sem]) rfl ⟨by rw [ar_2m fn (by omega)]; rfl,rfl⟩
  | exact bodyPost_ret (v:=.tuple #[.int .i64 1,.int .i64 1]) (by simp [results,Tryz.results138,go_sem]) rfl ⟨by rw [ar_11 fn (by omega)]; rfl,rfl⟩
set_option maxRecDepth 100000 in
set_option maxHeartbeats 4000000 in
theorem r8_Wide (fn i : Nat) (w : World) :
  Calls Tryz.prog 169 #[.int .u8 (fn : Nat),.int .i64 (i : Nat)] w fun e w' => e = .returned (.bool (wideS fn i)) ∧ w' = w:=by
 have h0 : ¬ (i : Int) < 0:=by omega
 by_cases hm : (arS fn).2 ≤ i
 ·have HM:=keep (wide_no fn i hm)
  have hmi : (((arS fn).2 : Nat) : Int) ≤ (i : Int):=by omega
  clear hm
  go_enter Tryz.func169,Tryz.ntmps169
  go_wp2_with fail
  refine (r8_Arity fn _).mono ?_
  rintro e w' ⟨rfl,hw⟩
  obtain rfl : w = w':=hw.symm
  go_wp2_with fail
  exact bodyPost_ret (v:=.bool false) (by simp [results,Tryz.results169,go_sem]) rfl ⟨by rw [HM.out.1],rfl⟩
 ·have HM:=keep hm
  have hmi : ¬ (((arS fn).2 : Nat) : Int) ≤ (i : Int):=by omega
  clear hm
  go_enter Tryz.func169,Tryz.ntmps169
  go_wp2_with fail
  refine (r8_Arity fn _).mono ?_
  rintro e w' ⟨rfl,hw⟩
  obtain rfl : w = w':=hw.symm
  go_wp2_with fail
  all_goals simp only [beq_iff_eq,beq_eq_false_iff_ne,ne_eq] at *
  all_goals
   first
   | exact bodyPost_ret (v:=.bool true) (by simp [results,Tryz.results169,go_sem]) rfl ⟨by rw [wide_any fn i HM.out (by omega)],rfl⟩
   | exact bodyPost_ret (v:=.bool ((i : Int) == 1)) (by simp [results,Tryz.results169,go_sem]) rfl ⟨by rw [wide_44 fn i HM.out (by omega),beq1],rfl⟩
   | exact bodyPost_ret (v:=.bool ((i : Int) == 0)) (by simp [results,Tryz.results169,go_sem]) rfl ⟨by rw [wide_one fn i HM.out (by omega),beq0],rfl⟩
   | exact bodyPost_ret (v:=.bool false) (by simp [results,Tryz.results169,go_sem]) rfl ⟨by rw [wide_else fn i HM.out (by omega),decide_eq_false (by omega)],rfl⟩
   | exact bodyPost_ret (v:=.bool (decide ((fn : Int) ≤ 50))) (by simp [results,Tryz.results169,go_sem]) rfl ⟨by rw [wide_else fn i HM.out (by omega)]; congr 2; rw [decide_eq_decide]; omega,rfl⟩
end Go.Proofs.YtlngjiibbcgkmaaGreatDoor
