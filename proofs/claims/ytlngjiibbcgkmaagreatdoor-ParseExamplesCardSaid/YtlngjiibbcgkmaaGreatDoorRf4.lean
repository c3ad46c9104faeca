/- The reference's check of a text, where it holds. -/
import Derived.Test.YtlngjiibbcgkmaaGreatDoorRefC
import Derived.Test.YtlngjiibbcgkmaaGreatDoorTreC
namespace Go.Proofs.YtlngjiibbcgkmaaGreatDoor
open Go.RowKit
set_option maxRecDepth 100000 in
theorem ref4_PlainP (s : ByteArray) (w : World) (hs : s.size ≤ 4611686018427387904) :
  Calls Tryz.prog 157 #[.string s] w fun e w' => e = .returned (.bool (s.data.toList.all plainB)) ∧ w' = w:=by
 have HSL:=keep (show s.data.toList.length = s.size by rw [Array.length_toList]; rfl)
 obtain ⟨p,hp⟩ : ∃ p,s.data.toList.all plainB = p:=⟨_,rfl⟩
 rw [hp]
 have HPP:=keep hp
 clear hp
 go_enter Tryz.func157,Tryz.ntmps157
 go_wp2_with fail
 go_loopw [3] (fun iv wr => ∃ k : Nat,k ≤ s.size ∧ iv = .int .i64 (k : Int) ∧ Keep (∀ b ∈ s.data.toList.take k,plainB b = true) ∧ wr = w) (fun iv _ => s.size - (intOf iv).toNat)
 case atStart => exact ⟨0,Nat.zero_le _,rfl,keep (by simp),rfl⟩
 case round =>
  obtain ⟨k,hk,rfl,HP,hwr⟩:=hrel
  obtain rfl : w = wr:=hwr.symm
  by_cases hlt : (k : Int) < s.size
  ·have hks : k < s.size:=by omega
   have hno : plainB (s[k]'hks) = false → p = false:=fun h => by
    rw [← HPP.out,List.all_eq_false]
    refine ⟨s[k]'hks,?_,by rw [h]; decide⟩
    show s.data.toList[k]'(by rw [HSL.out]; exact hks) ∈ _
    exact List.getElem_mem _
   rcases (show (((s[k]'hks).toNat : Int) < 32) ∨ (32 ≤ ((s[k]'hks).toNat : Int) ∧ 126 < ((s[k]'hks).toNat : Int)) ∨ (32 ≤ ((s[k]'hks).toNat : Int) ∧ ((s[k]'hks).toNat : Int) ≤ 126) by omega) with h1 | ⟨h1,h2⟩ | ⟨h1,h2⟩
   ·have HB:=keep (hno (by unfold plainB; simp; omega))
    clear hno
    go_wp2_with fail
    go_ret
    exact ⟨by rw [HB.out]; rfl,rfl⟩
   ·have HB:=keep (hno (by unfold plainB; simp; omega))
    clear hno
    go_wp2_with fail
    go_ret
    exact ⟨by rw [HB.out]; rfl,rfl⟩
   ·have HB:=keep (show ∀ b ∈ s.data.toList.take (k + 1),plainB b = true by
     intro b hb
     rw [List.take_succ_eq_append_getElem (by rw [HSL.out]; exact hks)] at hb
     rcases List.mem_append.1 hb with hb | hb
     ·exact HP.out b hb
     ·simp at hb
      subst hb
      show plainB (s[k]'hks) = true
      unfold plainB
      simp; omega)
    clear hno
    go_wp2_with fail
    go_roundw
    case rel => exact ⟨k + 1,by omega,by go_num,HB,by first | trivial | rfl⟩
    case measure => simp [intOf]; omega
  ·obtain rfl : k = s.size:=by omega
   have HA:=keep (show p = true by
    rw [← HPP.out,List.all_eq_true]
    exact fun b hb => HP.out b (by rw [← HSL.out,List.take_length]; exact hb))
   go_wp2_with fail
   go_ret
   exact ⟨by rw [HA.out]; rfl,rfl⟩
theorem ref4_CheckOk (t : List UInt8) (w : World) (h : t.length ≤ 256) (hp : t.all plainB = true) :
  Calls Tryz.prog 121 #[.string ⟨t.toArray⟩] w fun e w' => e = .returned (.int .i64 0) ∧ w' = w:=by
 obtain ⟨s,hs⟩ : ∃ s : ByteArray,s = ⟨t.toArray⟩:=⟨_,rfl⟩
 have hsz : s.size ≤ 256:=by subst hs; show t.toArray.size ≤ 256; simpa using h
 have hal : s.data.toList.all plainB = true:=by subst hs; exact hp
 rw [← hs]
 clear hs h hp
 have HP:=keep (ref4_PlainP s w (by omega))
 rw [hal] at HP
 clear hal
 have hi : ¬ (s.size : Int) > 256:=by omega
 go_enter Tryz.func121,Tryz.ntmps121
 go_wp2_with fail
 refine (HP.out).mono ?_
 rintro e w1 ⟨rfl,hw⟩
 obtain rfl : w = w1:=hw.symm
 go_wp2_with fail
 go_ret
 exact ⟨rfl,rfl⟩
end Go.Proofs.YtlngjiibbcgkmaaGreatDoor
