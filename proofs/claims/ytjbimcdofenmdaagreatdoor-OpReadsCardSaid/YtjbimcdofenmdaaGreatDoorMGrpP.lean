/- Contracts of group.user and group.Parse: what gparseG says. Conditions: the library's variables (Env); a text of fewer than 2^32 - 15 bytes. -/
import Derived.Test.YtjbimcdofenmdaaGreatDoorMGrpM
import Derived.Test.YtjbimcdofenmdaaGreatDoorMAddrW2
import Derived.Lib.AtoiErrMem
namespace Go.Proofs.YtjbimcdofenmdaaGreatDoor
open Go.RowKit
theorem below_cases {w w' : World} {e : Nat} (h : w' = w ∨ ∃ t,w' = Lib.bytesWorld w e t) : Below w.heap.size w w':=by
 rcases h with rfl | ⟨t,rfl⟩
 ·exact Below.refl _ _
 ·exact Lib.bytesWorld_below _ _ _
set_option maxRecDepth 100000 in
theorem user_yes (s : ByteArray) (u : Nat) (w : World) (hs : s.size ≤ 4294967296) (h : userW s.data.toList = some u) :
  Calls Tryz.prog 113 #[.string s] w fun e w' => e = .returned (.tuple #[.int .i64 u,.bool true]) ∧ Below w.heap.size w w':=by
 unfold userW at h
 rcases hv : Lib.atoiAll s.data.toList with v | _ | _
 rotate_left
 ·rw [hv] at h; cases h
 ·rw [hv] at h; cases h
 ·rw [hv] at h
  simp only at h
  split at h
  ·next hc =>
   obtain rfl:=Option.some.inj h
   obtain ⟨n,rfl⟩:=Int.eq_ofNat_of_zero_le hc.1
   rw [Int.toNat_natCast]
   have HV:=keep hv
   have h64 : (n : Int) < 64:=hc.2
   clear hv h hc
   go_enter Tryz.func113,Tryz.ntmps113
   go_wp2_with fail
   refine (Tryz.strconv_Atoi_ok s (by omega) n HV.out _).mono ?_
   rintro e w' ⟨rfl,hw⟩
   have hb:=below_cases hw
   clear hw
   go_wp2_with fail
   go_ret2
   exact ⟨rfl,hb⟩
  ·cases h
def NoUser (w : World) (e : Ending) (w' : World) : Prop:=∃ n : Int,e = .returned (.tuple #[.int .i64 n,.bool false]) ∧ Below w.heap.size w w'
set_option maxRecDepth 100000 in
theorem user_no (s : ByteArray) (w : World) (hs : s.size ≤ 4294967296) (h : userW s.data.toList = none) (hE : Env w) :
  Calls Tryz.prog 113 #[.string s] w (NoUser w):=by
 unfold userW at h
 rcases hv : Lib.atoiAll s.data.toList with v | _ | _
 ·rw [hv] at h
  simp only at h
  split at h
  ·cases h
  ·next hc =>
   have HV:=keep hv
   clear hv h hE
   by_cases h0 : (0 : Int) ≤ v
   ·have h64 : decide (v < 64) = false:=decide_eq_false fun c => hc ⟨h0,c⟩
    clear hc
    go_enter Tryz.func113,Tryz.ntmps113
    go_wp2_with fail
    refine (Tryz.strconv_Atoi_ok s (by omega) v HV.out _).mono ?_
    rintro e w' ⟨rfl,hw⟩
    have hb:=below_cases hw
    clear hw
    go_wp2_with fail
    go_ret2
    exact ⟨_,rfl,hb⟩
   ·clear hc
    go_enter Tryz.func113,Tryz.ntmps113
    go_wp2_with fail
    refine (Tryz.strconv_Atoi_ok s (by omega) v HV.out _).mono ?_
    rintro e w' ⟨rfl,hw⟩
    have hb:=below_cases hw
    clear hw
    go_wp2_with fail
    go_ret2
    exact ⟨_,rfl,hb⟩
 ·have HV:=keep hv
  obtain ⟨te,pe,hc⟩:=hE.2.2.1
  have HC:=keep hc
  clear hv h hc hE
  go_enter Tryz.func113,Tryz.ntmps113
  go_wp2_with fail
  refine (Tryz.strconv_Atoi_syntax s (by omega) HV.out _ _ HC.out (.inr ⟨te,pe,rfl⟩)).mono ?_
  rintro e w' ⟨N,rfl,_,_,hb⟩
  go_wp2_with fail
  go_ret2
  exact ⟨_,rfl,hb⟩
 ·have HV:=keep hv
  obtain ⟨te,pe,hc⟩:=hE.2.2.2
  have HC:=keep hc
  clear hv h hc hE
  go_enter Tryz.func113,Tryz.ntmps113
  go_wp2_with fail
  refine (Tryz.strconv_Atoi_range s (by omega) HV.out _ _ HC.out (.inr ⟨te,pe,rfl⟩)).mono ?_
  rintro e w' ⟨N,rfl,_,_,hb⟩
  go_wp2_with fail
  go_ret2
  exact ⟨_,rfl,hb⟩
theorem splitK_le (sep : List UInt8) (k : Nat) (s : List UInt8) : ∀ x ∈ Lib.splitK sep 0 k s,x.length ≤ s.length:=by
 induction k generalizing s with
 | zero => intro x hx; rw [Lib.splitK,List.mem_singleton] at hx; subst hx; exact Nat.le_refl _
 | succ k ih =>
  intro x hx
  rw [Lib.splitK] at hx
  split at hx
  ·rw [List.mem_singleton] at hx; subst hx; exact Nat.le_refl _
  ·rcases List.mem_cons.1 hx with rfl | hx
   ·simp; omega
   ·have:=ih _ x hx
    simp at this; omega
theorem cut_le (l sep : List UInt8) : (Lib.cut l sep).1.length ≤ l.length ∧ (Lib.cut l sep).2.1.length ≤ l.length:=by
 unfold Lib.cut
 split
 ·exact ⟨by simp; omega,by simp⟩
 ·exact ⟨Nat.le_refl _,Nat.zero_le _⟩
theorem take_one {α : Type} (l : List α) (k : Nat) (x : α) (h : l[k]? = some x) : l.take (k + 1) = l.take k ++ [x]:=by
 rw [List.take_add_one,h]; rfl
theorem bytes_ne (s : ByteArray) (l : List UInt8) (h : s.data.toList ≠ l) : (s.toList == l) = false:=by
 rw [ByteArray.toList_eq,beq_eq_false_iff_ne]; exact h
theorem bytes_eq {s : ByteArray} {l : List UInt8} (h : s.data.toList = l) : s = byt l:=by
 unfold byt; apply ByteArray.ext; rw [← h]
theorem byt_data (l : List UInt8) : (byt l).data.toList = l:=by unfold byt; simp
attribute [local irreducible] readG wordG userW rightW runN gfmtL byt
set_option maxRecDepth 100000 in
set_option maxHeartbeats 4000000 in
theorem group_parse (s : ByteArray) (w : World) (hs : s.size ≤ 4294967280) (hE : Env w) :
  Calls Tryz.prog 92 #[.string s] w fun e w' => e = .returned (.tuple #[.int .u64 ((gparseG s.data.toList).1 : Nat),.int .i64 (gparseG s.data.toList).2]) ∧ Below w.heap.size w w':=by
 by_cases h1 : s.data.toList = [45]
 ·have e : gparseG s.data.toList = (0,0):=by unfold gparseG; rw [if_pos h1]
  rw [e]
  obtain rfl:=bytes_eq h1
  rw [show byt [45] = ⟨#[45]⟩ from by unfold byt; rfl]
  go_enter Tryz.func92,Tryz.ntmps92
  go_wp2_with fail
  go_ret2
  exact ⟨rfl,Below.refl _ _⟩
 by_cases h2 : s.data.toList = [42]
 ·have e : gparseG s.data.toList = (18446744073709551615,0):=by unfold gparseG; rw [if_neg h1,if_pos h2]
  rw [e]
  obtain rfl:=bytes_eq h2
  rw [show byt [42] = ⟨#[42]⟩ from by unfold byt; rfl]
  go_enter Tryz.func92,Tryz.ntmps92
  go_wp2_with fail
  go_ret2
  exact ⟨rfl,Below.refl _ _⟩
 have g1:=bytes_ne s [45] h1
 have g2:=bytes_ne s [42] h2
 obtain ⟨m,hm⟩:=hE.2.1
 have HM:=keep hm
 have HE:=keep hE
 have HS:=keep hs
 clear hm
 have hw0:=Lib.splitB_data ⟨#[44]⟩ 0 (Lib.countB s ⟨#[44]⟩) s
 have hw1:=Lib.splitB_all ⟨#[44]⟩ (by decide) 0 _ s rfl
 have hsz : ∀ x ∈ Lib.splitB ⟨#[44]⟩ 0 (Lib.countB s ⟨#[44]⟩) s,x.size ≤ s.size:=by
  intro x hx
  have h1 : x.data.toList ∈ Lib.splitK [44] 0 (Lib.countB s ⟨#[44]⟩) s.data.toList:=by
   rw [← hw0]; exact List.mem_map_of_mem hx
  exact splitK_le [44] _ _ _ h1
 have hcnt:=Lib.countB_le ⟨#[44]⟩ (by decide) _ s (Nat.le_refl _)
 go_enter Tryz.func92,Tryz.ntmps92
 go_wp2_with fail
 refine (Tryz.strings_Split s ⟨#[44]⟩ m _ (by omega) HM.out (by decide)).mono ?_
 rintro e w' ⟨rfl,rfl⟩
 generalize hws : Lib.splitB ⟨#[44]⟩ 0 (Lib.countB s ⟨#[44]⟩) s = ws at hw0 hw1 hsz ⊢
 generalize hn : Lib.countB s ⟨#[44]⟩ = n at hw1 hcnt ⊢
 have HW0:=keep (show ws.map (fun b => b.data.toList) = Lib.split s.data.toList [44] from by rw [hw0]; rfl)
 have HW1:=keep hw1
 have HSZ:=keep hsz
 have hB0 : Below w.heap.size w (w.alloc (.cells (ws.map Value.string).toArray 9)):=(Below.refl _ _).alloc (Nat.le_refl _) _
 have hK0:=Blk.new w 9 (ws.map Value.string).toArray
 have HB0:=Lib.hid hB0
 have HK0:=Lib.hid hK0
 generalize w.alloc (.cells (ws.map Value.string).toArray 9) = w1 at HB0 HK0 ⊢
 clear hw0 hw1 hsz hws hn hB0 hK0
 go_wp2_with fail
 go_loopw [4,23] (fun sv iv wr => ∃ (k t : Nat),k ≤ n + 1 ∧ t < 18446744073709551616 ∧ sv = .int .u64 t ∧ iv = .int .i64 k ∧ Keep (readG ((ws.map (fun b => b.data.toList)).take k) = some t) ∧ Hid (Below w.heap.size w wr) ∧ Hid (Blk wr w.heap.size 9 (ws.map Value.string).toArray)) (fun _ iv _ => n + 1 - (intOf iv).toNat)
 case atStart => exact ⟨0,0,by omega,by decide,rfl,rfl,keep (by rw [List.take_zero]; exact readG_nil),HB0,HK0⟩
 case round =>
  obtain ⟨k,t,hk,ht,rfl,rfl,HT,HB,HK⟩:=hrel
  by_cases hlt : (k : Int) < n + 1
  ·obtain ⟨x,hx⟩ : ∃ x,ws[k]? = some x:=⟨_,List.getElem?_eq_getElem (by rw [HW1.out]; omega)⟩
   have hxs:=HSZ.out x (List.mem_of_getElem? hx)
   have hc : wr.cell? ⟨w.heap.size,k,none⟩ = some (.string x):=by rw [HK.out.cell k]; simp [hx]
   have HX:=keep hx
   have lw:=HK.out.lt
   obtain ⟨m2,hm2⟩:=(HE.out.below HB.out).2.1
   have HM2:=keep hm2
   clear hx hm2
   go_wp2_with fail
   refine (Tryz.strings_Cut x ⟨#[45]⟩ m2 _ (by omega) HM2.out).mono ?_
   rintro e w2 ⟨rfl,nq,rfl⟩
   have hlc:=cut_le x.data.toList [45]
   rw [show (⟨#[45]⟩ : ByteArray).data.toList = [45] from rfl]
   have HB2:=Lib.hid (below_drewN HB.out nq)
   have HK2:=Lib.hid (show Blk (wr.drewN nq) w.heap.size 9 (ws.map Value.string).toArray from HK.out.drewN nq)
   generalize wr.drewN nq = w2 at HB2 HK2 ⊢
   generalize hcut : Lib.cut x.data.toList [45] = c at hlc ⊢
   obtain ⟨ca,cb,cis⟩:=c
   have HCUT:=keep hcut
   have hxl : x.data.toList.length ≤ 4294967296:=by show x.data.toList.length ≤ _; have:=Lib.size_eq x; omega
   have HLA:=keep (show ca.length ≤ 4294967296 from Nat.le_trans hlc.1 hxl)
   have HLB0:=keep (show cb.length ≤ 4294967296 from Nat.le_trans hlc.2 hxl)
   clear hcut hlc hxl
   have HXD:=keep (show (ws.map (fun b => b.data.toList))[k]? = some x.data.toList by rw [List.getElem?_map,HX.out]; rfl)
   cases cis
   ·have HLB:=HLA
    go_wp2_with fail
    cases ha : userW ca with
    | none =>
     have HNONE:=keep (show wordG t x.data.toList = none from wordG_none1 _ _ (by rw [HCUT.out]; exact ha))
     refine (user_no ⟨ca.toArray⟩ _ (by have:=HLA.out; show ca.toArray.size ≤ _; simp; omega) (by simpa using ha) (HE.out.below HB2.out)).mono ?_
     rintro e w3 ⟨q1,rfl,hb3⟩
     have HB3:=Lib.hid (below_step HB2.out hb3)
     have HE3:=keep (HE.out.below HB3.out)
     clear ha hb3
     go_wp2_with fail
     cases hb : userW ca with
     | none =>
      refine (user_no ⟨ca.toArray⟩ _ (by have:=HLB.out; show ca.toArray.size ≤ _; simp; omega) (by simpa using hb) HE3.out).mono ?_
      rintro e w4 ⟨q2,rfl,hb4⟩
      have HBZ:=Lib.hid (below_step HB3.out hb4)
      clear hb hb4
      go_wp2_with fail
      go_ret2
      have hrd : readG (Lib.split s.data.toList [44]) = none:=by
       rw [← HW0.out,← List.take_append_drop (k + 1) (ws.map (fun b => b.data.toList))]
       refine readG_none _ _ ?_
       rw [take_one _ k _ HXD.out,readG_snoc,HT.out]
       exact HNONE.out
      have hfin : gparseG s.data.toList = (0,4):=by unfold gparseG; rw [if_neg h1,if_neg h2,hrd]
      rw [hfin]
      exact ⟨rfl,HBZ.out⟩
     | some u2 =>
      refine (user_yes ⟨ca.toArray⟩ u2 _ (by have:=HLB.out; show ca.toArray.size ≤ _; simp; omega) (by simpa using hb)).mono ?_
      rintro e w4 ⟨rfl,hb4⟩
      have HBZ:=Lib.hid (below_step HB3.out hb4)
      clear hb hb4
      go_wp2_with fail
      go_ret2
      have hrd : readG (Lib.split s.data.toList [44]) = none:=by
       rw [← HW0.out,← List.take_append_drop (k + 1) (ws.map (fun b => b.data.toList))]
       refine readG_none _ _ ?_
       rw [take_one _ k _ HXD.out,readG_snoc,HT.out]
       exact HNONE.out
      have hfin : gparseG s.data.toList = (0,4):=by unfold gparseG; rw [if_neg h1,if_neg h2,hrd]
      rw [hfin]
      exact ⟨rfl,HBZ.out⟩
    | some u1 =>
     have hu1:=userW_lt _ _ ha
     have HA:=keep ha
     refine (user_yes ⟨ca.toArray⟩ u1 _ (by have:=HLA.out; show ca.toArray.size ≤ _; simp; omega) (by simpa using ha)).mono ?_
     rintro e w3 ⟨rfl,hb3⟩
     have HB3:=Lib.hid (below_step HB2.out hb3)
     have HE3:=keep (HE.out.below HB3.out)
     have HK3:=Lib.hid (HK2.out.below hb3 HK2.out.lt)
     clear ha hb3
     go_wp2_with fail
     cases hb : userW ca with
     | none =>
      have HNONE:=keep (show wordG t x.data.toList = none from wordG_none2 _ _ (by unfold rightW; rw [HCUT.out]; exact hb))
      refine (user_no ⟨ca.toArray⟩ _ (by have:=HLB.out; show ca.toArray.size ≤ _; simp; omega) (by simpa using hb) HE3.out).mono ?_
      rintro e w4 ⟨q2,rfl,hb4⟩
      have HBZ:=Lib.hid (below_step HB3.out hb4)
      clear hb hb4
      go_wp2_with fail
      go_ret2
      have hrd : readG (Lib.split s.data.toList [44]) = none:=by
       rw [← HW0.out,← List.take_append_drop (k + 1) (ws.map (fun b => b.data.toList))]
       refine readG_none _ _ ?_
       rw [take_one _ k _ HXD.out,readG_snoc,HT.out]
       exact HNONE.out
      have hfin : gparseG s.data.toList = (0,4):=by unfold gparseG; rw [if_neg h1,if_neg h2,hrd]
      rw [hfin]
      exact ⟨rfl,HBZ.out⟩
     | some u2 =>
      have hu2:=userW_lt _ _ hb
      have HSOME:=keep (show wordG t x.data.toList = some (runN t u1 (u2 + 1 - u1)) from wordG_some _ _ _ _ (by rw [HCUT.out]; exact HA.out) (by unfold rightW; rw [HCUT.out]; exact hb))
      refine (user_yes ⟨ca.toArray⟩ u2 _ (by have:=HLB.out; show ca.toArray.size ≤ _; simp; omega) (by simpa using hb)).mono ?_
      rintro e w4 ⟨rfl,hb4⟩
      have HBZ:=Lib.hid (below_step HB3.out hb4)
      have HKZ:=Lib.hid (HK3.out.below hb4 HK3.out.lt)
      clear hb hb4
      go_wp2_with fail
      go_loop [4,14] (fun sv uv => ∃ j : Nat,j ≤ u2 + 1 - u1 ∧ sv = .int .u64 ((runN t u1 j : Nat) : Int) ∧ uv = .int .i64 ((u1 + j : Nat) : Int)) (fun _ uv => u2 + 1 - (intOf uv).toNat)
      case atStart => exact ⟨0,by omega,by unfold runN; rfl,rfl⟩
      case round =>
       obtain ⟨j,hj,rfl,rfl⟩:=hrel
       by_cases hjl : ((u1 + j : Nat) : Int) ≤ u2
       ·have hw:=wrap_pow (u1 + j) (by omega)
        have hrl:=runN_lt t u1 j ht (by omega)
        have HR:=keep (show runN t u1 j ||| 2 ^ (u1 + j) = runN t u1 (j + 1) by rw [runN])
        have ho:=or_pow (runN t u1 j) (u1 + j) hrl (by omega)
        have q1 : 0 ≤ ((u1 + j : Nat) : Int):=by omega
        have q2 : ((u1 + j : Nat) : Int) < 64:=by omega
        generalize runN t u1 j = rr at ho hrl HR ⊢
        go_wp2_with fail
        exact ⟨⟨j + 1,by omega,by rw [← HR.out],by go_num⟩,by simp [intOf]; omega⟩
       ·have hje : j = u2 + 1 - u1:=by omega
        subst hje
        go_wp2_with fail
        have hnew : readG ((ws.map (fun b => b.data.toList)).take (k + 1)) = some (runN t u1 (u2 + 1 - u1)):=by
         rw [take_one _ k _ HXD.out,readG_snoc,HT.out]
         exact HSOME.out
        exact ⟨⟨k + 1,_,by omega,(by
         rcases Nat.lt_or_ge (u2 + 1) u1 with c | c
         ·rw [show u2 + 1 - u1 = 0 from by omega]; unfold runN; exact ht
         ·exact runN_lt _ _ _ ht (by omega)),rfl,by go_num,keep hnew,HBZ,HKZ⟩,by simp [intOf]; omega⟩
   ·have HLB:=HLB0
    go_wp2_with fail
    cases ha : userW ca with
    | none =>
     have HNONE:=keep (show wordG t x.data.toList = none from wordG_none1 _ _ (by rw [HCUT.out]; exact ha))
     refine (user_no ⟨ca.toArray⟩ _ (by have:=HLA.out; show ca.toArray.size ≤ _; simp; omega) (by simpa using ha) (HE.out.below HB2.out)).mono ?_
     rintro e w3 ⟨q1,rfl,hb3⟩
     have HB3:=Lib.hid (below_step HB2.out hb3)
     have HE3:=keep (HE.out.below HB3.out)
     clear ha hb3
     go_wp2_with fail
     cases hb : userW cb with
     | none =>
      refine (user_no ⟨cb.toArray⟩ _ (by have:=HLB.out; show cb.toArray.size ≤ _; simp; omega) (by simpa using hb) HE3.out).mono ?_
      rintro e w4 ⟨q2,rfl,hb4⟩
      have HBZ:=Lib.hid (below_step HB3.out hb4)
      clear hb hb4
      go_wp2_with fail
      go_ret2
      have hrd : readG (Lib.split s.data.toList [44]) = none:=by
       rw [← HW0.out,← List.take_append_drop (k + 1) (ws.map (fun b => b.data.toList))]
       refine readG_none _ _ ?_
       rw [take_one _ k _ HXD.out,readG_snoc,HT.out]
       exact HNONE.out
      have hfin : gparseG s.data.toList = (0,4):=by unfold gparseG; rw [if_neg h1,if_neg h2,hrd]
      rw [hfin]
      exact ⟨rfl,HBZ.out⟩
     | some u2 =>
      refine (user_yes ⟨cb.toArray⟩ u2 _ (by have:=HLB.out; show cb.toArray.size ≤ _; simp; omega) (by simpa using hb)).mono ?_
      rintro e w4 ⟨rfl,hb4⟩
      have HBZ:=Lib.hid (below_step HB3.out hb4)
      clear hb hb4
      go_wp2_with fail
      go_ret2
      have hrd : readG (Lib.split s.data.toList [44]) = none:=by
       rw [← HW0.out,← List.take_append_drop (k + 1) (ws.map (fun b => b.data.toList))]
       refine readG_none _ _ ?_
       rw [take_one _ k _ HXD.out,readG_snoc,HT.out]
       exact HNONE.out
      have hfin : gparseG s.data.toList = (0,4):=by unfold gparseG; rw [if_neg h1,if_neg h2,hrd]
      rw [hfin]
      exact ⟨rfl,HBZ.out⟩
    | some u1 =>
     have hu1:=userW_lt _ _ ha
     have HA:=keep ha
     refine (user_yes ⟨ca.toArray⟩ u1 _ (by have:=HLA.out; show ca.toArray.size ≤ _; simp; omega) (by simpa using ha)).mono ?_
     rintro e w3 ⟨rfl,hb3⟩
     have HB3:=Lib.hid (below_step HB2.out hb3)
     have HE3:=keep (HE.out.below HB3.out)
     have HK3:=Lib.hid (HK2.out.below hb3 HK2.out.lt)
     clear ha hb3
     go_wp2_with fail
     cases hb : userW cb with
     | none =>
      have HNONE:=keep (show wordG t x.data.toList = none from wordG_none2 _ _ (by unfold rightW; rw [HCUT.out]; exact hb))
      refine (user_no ⟨cb.toArray⟩ _ (by have:=HLB.out; show cb.toArray.size ≤ _; simp; omega) (by simpa using hb) HE3.out).mono ?_
      rintro e w4 ⟨q2,rfl,hb4⟩
      have HBZ:=Lib.hid (below_step HB3.out hb4)
      clear hb hb4
      go_wp2_with fail
      go_ret2
      have hrd : readG (Lib.split s.data.toList [44]) = none:=by
       rw [← HW0.out,← List.take_append_drop (k + 1) (ws.map (fun b => b.data.toList))]
       refine readG_none _ _ ?_
       rw [take_one _ k _ HXD.out,readG_snoc,HT.out]
       exact HNONE.out
      have hfin : gparseG s.data.toList = (0,4):=by unfold gparseG; rw [if_neg h1,if_neg h2,hrd]
      rw [hfin]
      exact ⟨rfl,HBZ.out⟩
     | some u2 =>
      have hu2:=userW_lt _ _ hb
      have HSOME:=keep (show wordG t x.data.toList = some (runN t u1 (u2 + 1 - u1)) from wordG_some _ _ _ _ (by rw [HCUT.out]; exact HA.out) (by unfold rightW; rw [HCUT.out]; exact hb))
      refine (user_yes ⟨cb.toArray⟩ u2 _ (by have:=HLB.out; show cb.toArray.size ≤ _; simp; omega) (by simpa using hb)).mono ?_
      rintro e w4 ⟨rfl,hb4⟩
      have HBZ:=Lib.hid (below_step HB3.out hb4)
      have HKZ:=Lib.hid (HK3.out.below hb4 HK3.out.lt)
      clear hb hb4
      go_wp2_with fail
      go_loop [4,14] (fun sv uv => ∃ j : Nat,j ≤ u2 + 1 - u1 ∧ sv = .int .u64 ((runN t u1 j : Nat) : Int) ∧ uv = .int .i64 ((u1 + j : Nat) : Int)) (fun _ uv => u2 + 1 - (intOf uv).toNat)
      case atStart => exact ⟨0,by omega,by unfold runN; rfl,rfl⟩
      case round =>
       obtain ⟨j,hj,rfl,rfl⟩:=hrel
       by_cases hjl : ((u1 + j : Nat) : Int) ≤ u2
       ·have hw:=wrap_pow (u1 + j) (by omega)
        have hrl:=runN_lt t u1 j ht (by omega)
        have HR:=keep (show runN t u1 j ||| 2 ^ (u1 + j) = runN t u1 (j + 1) by rw [runN])
        have ho:=or_pow (runN t u1 j) (u1 + j) hrl (by omega)
        have q1 : 0 ≤ ((u1 + j : Nat) : Int):=by omega
        have q2 : ((u1 + j : Nat) : Int) < 64:=by omega
        generalize runN t u1 j = rr at ho hrl HR ⊢
        go_wp2_with fail
        exact ⟨⟨j + 1,by omega,by rw [← HR.out],by go_num⟩,by simp [intOf]; omega⟩
       ·have hje : j = u2 + 1 - u1:=by omega
        subst hje
        go_wp2_with fail
        have hnew : readG ((ws.map (fun b => b.data.toList)).take (k + 1)) = some (runN t u1 (u2 + 1 - u1)):=by
         rw [take_one _ k _ HXD.out,readG_snoc,HT.out]
         exact HSOME.out
        exact ⟨⟨k + 1,_,by omega,(by
         rcases Nat.lt_or_ge (u2 + 1) u1 with c | c
         ·rw [show u2 + 1 - u1 = 0 from by omega]; unfold runN; exact ht
         ·exact runN_lt _ _ _ ht (by omega)),rfl,by go_num,keep hnew,HBZ,HKZ⟩,by simp [intOf]; omega⟩
  ·have hke : k = n + 1:=by omega
   subst hke
   have hrd : readG (Lib.split s.data.toList [44]) = some t:=by
    rw [← HW0.out,← HT.out,List.take_of_length_le (by rw [List.length_map,HW1.out]; exact Nat.le_refl _)]
   have HRD:=keep hrd
   clear hrd
   go_wp2_with fail
   refine (group_format t _ ht (HE.out.below HB.out).1).mono ?_
   rintro e w2 ⟨rfl,hb2⟩
   have HBZ:=Lib.hid (below_step HB.out hb2)
   clear hb2
   by_cases heq : gfmtL t = s.data.toList
   ·have hfin : gparseG s.data.toList = ((t : Nat),0):=by unfold gparseG; rw [if_neg h1,if_neg h2,HRD.out]; simp only; rw [if_pos heq]
    have HFIN:=keep hfin
    have gq : (((byt (gfmtL t)).toList == s.toList) : Bool) = true:=by rw [ByteArray.toList_eq,ByteArray.toList_eq,byt_data,heq]; simp
    generalize byt (gfmtL t) = FB at gq ⊢
    clear heq hfin
    go_wp2_with fail
    go_ret2
    rw [HFIN.out]
    exact ⟨rfl,HBZ.out⟩
   ·have hfin : gparseG s.data.toList = (0,4):=by unfold gparseG; rw [if_neg h1,if_neg h2,HRD.out]; simp only; rw [if_neg heq]
    have HFIN:=keep hfin
    have gq : (((byt (gfmtL t)).toList == s.toList) : Bool) = false:=by rw [ByteArray.toList_eq,ByteArray.toList_eq,byt_data,beq_eq_false_iff_ne]; exact heq
    generalize byt (gfmtL t) = FB at gq ⊢
    clear heq hfin
    go_wp2_with fail
    go_ret2
    rw [HFIN.out]
    exact ⟨rfl,HBZ.out⟩
end Go.Proofs.YtjbimcdofenmdaaGreatDoor
