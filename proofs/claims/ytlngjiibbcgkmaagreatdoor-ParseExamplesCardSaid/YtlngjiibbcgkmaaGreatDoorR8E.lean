/- The contracts of tree.check and tree.Check, at nodes that a formula may hold. The reference's judge and Depth, at nodes that a formula may hold. -/
import Derived.Test.YtlngjiibbcgkmaaGreatDoorTreC
import Derived.Test.YtlngjiibbcgkmaaGreatDoorR8D
namespace Go.Proofs.YtlngjiibbcgkmaaGreatDoor
open Go.RowKit
theorem check_long {t : List Nd} (h : 256 < t.length) : checkS t = 5:=by unfold checkS; rw [if_pos h]
theorem check_none : checkS [] = 4:=by simp [checkS]
theorem check_bad {t : List Nd} (h : ¬ 256 < t.length) (h0 : t ≠ []) (hw : walkE t ≠ 0) : checkS t = walkE t:=by unfold checkS; rw [if_neg h,if_neg h0,if_pos hw]
theorem check_last {t : List Nd} {n : Nd} {k : Nat} (h : ¬ 256 < t.length) (h0 : t ≠ []) (hw : walkE t = 0) (hn : t[t.length - 1]? = some n) (hk : n.kind = k) : checkS t = if k = 3 then 4 else 0:=by
 unfold checkS
 rw [if_neg h,if_neg h0,if_neg (by rw [hw]; decide),List.getLast?_eq_getElem?,hn,← hk]
 simp
set_option maxRecDepth 100000 in
set_option maxHeartbeats 4000000 in
theorem tree_check (t : List Nd) (ta : Option Addr) (tc : Nat) (w : World) (ht : RowsAt w ta 11 (t.map ndRow)) (htl : t.length ≤ 1000) (hgood : ∀ n ∈ t,goodNd n) :
  Calls Tryz.prog 49 #[.slice ta t.length tc,.bool false,.func (.func 50) #[] #[]] w fun e w' => e = .returned (.int .i64 (checkS t)) ∧ Below w.heap.size w w':=by
 have HT:=keep ht
 have HG:=keep hgood
 clear ht hgood
 obtain ⟨tl,htl2⟩ : ∃ tl,t.length = tl:=⟨_,rfl⟩
 have hwalk:=tree_walk t ta tc w HT.out (by omega) HG.out
 rw [htl2] at htl hwalk ⊢
 have HTL:=keep htl2
 clear htl2
 have HWK:=keep hwalk
 clear hwalk
 obtain ⟨V,hV⟩ : ∃ V,checkS t = V:=⟨_,rfl⟩
 rw [hV]
 have HV:=keep hV
 clear hV
 by_cases h256 : (tl : Int) > 256
 ·have HE:=keep (show V = 5 from HV.out.symm.trans (check_long (by rw [HTL.out]; omega)))
  go_enter Tryz.func49,Tryz.ntmps49
  go_wp2_with fail
  go_ret
  exact ⟨by rw [HE.out]; rfl,Below.refl _ _⟩
 by_cases h0 : tl = 0
 ·subst h0
  have HE:=keep (show V = 4 from HV.out.symm.trans (by rw [List.length_eq_zero_iff.1 HTL.out]; exact check_none))
  clear h256
  go_enter Tryz.func49,Tryz.ntmps49
  go_wp2_with fail
  go_ret
  exact ⟨by rw [HE.out]; rfl,Below.refl _ _⟩
 have h0i : ((tl : Int) == 0) = false:=by simpa using h0
 have HN0:=keep (show t ≠ [] by intro e; have h9:=HTL.out; rw [e] at h9; simp at h9; omega)
 have HN256:=keep (show ¬ 256 < t.length by rw [HTL.out]; omega)
 obtain ⟨E,hE⟩ : ∃ E,walkE t = E:=⟨_,rfl⟩
 have hwk:=HWK.out
 rw [hE] at hwk
 have HWE:=keep hE
 have HWK2:=keep hwk
 clear hwk hE HWK
 by_cases hE0 : E = 0
 ·subst hE0
  obtain ⟨n,hn⟩ : ∃ n,t[t.length - 1]? = some n:=⟨_,List.getElem?_eq_getElem (by rw [HTL.out]; omega)⟩
  obtain ⟨nk,hnk⟩ : ∃ nk,n.kind = nk:=⟨_,rfl⟩
  have HE:=keep (show V = if nk = 3 then 4 else 0 from HV.out.symm.trans (check_last HN256.out HN0.out HWE.out hn hnk))
  obtain ⟨tb,tz,hta,htb,htcell⟩:=HT.out (by intro e; have h9:=congrArg List.length e; rw [List.length_map] at h9; simp only [List.length_nil] at h9; have:=HTL.out; omega)
  subst hta
  rw [HTL.out] at hn
  have hc:=htcell (tl - 1) (ndRow n) (by rw [List.getElem?_map,hn]; rfl) 0 (.int .u8 (n.kind : Nat)) rfl
  rw [hnk,Nat.add_zero] at hc
  have HC:=keep hc
  have htbw:=htb
  have hi1 : IntKind.i64.wrap ((tl : Int) - 1) = (tl : Int) - 1:=Go.IntWalk.i64_in _ (by omega)
  have hi2 : ((tl : Int) - 1).toNat = tl - 1:=by omega
  have hi3 : (tl : Int) - 1 < (tl : Int):=by omega
  have hi4 : (0 : Int) ≤ (tl : Int) - 1:=by omega
  obtain ⟨kn3,hk3⟩ : ∃ b : Bool,((nk : Int) == 3) = b:=⟨_,rfl⟩
  have HK3:=keep hk3
  clear hn hnk htcell hc
  go_enter Tryz.func49,Tryz.ntmps49
  go_wp2_with fail
  refine HWK2.out.mono ?_
  rintro e w1 ⟨rfl,hb⟩
  have hc1:=(hb.cell htb).trans HC.out
  have htb1 : tb < w1.heap.size:=Nat.lt_of_lt_of_le htb hb.size
  have HB:=Lib.hid hb
  clear hb
  go_wp2_with fail
  all_goals go_ret
  all_goals
   refine ⟨?_,HB.out⟩
   have h3:=HK3.out
   rw [HE.out]
  ·rename_i hk
   rw [hk,beq_iff_eq] at h3
   rw [if_pos (by omega)]; rfl
  ·rename_i hk
   rw [hk,beq_eq_false_iff_ne] at h3
   rw [if_neg (by omega)]; rfl
 ·have hE1 : (E != 0) = true:=by simpa using hE0
  have HE:=keep (show V = E from HV.out.symm.trans ((check_bad HN256.out HN0.out (by rw [HWE.out]; exact hE0)).trans HWE.out))
  clear hE0
  go_enter Tryz.func49,Tryz.ntmps49
  go_wp2_with fail
  refine HWK2.out.mono ?_
  rintro e w1 ⟨rfl,hb⟩
  have HB:=Lib.hid hb
  clear hb
  go_wp2_with fail
  go_ret
  exact ⟨by rw [HE.out]; rfl,HB.out⟩
theorem tree_Check (t : List Nd) (ta : Option Addr) (tc : Nat) (w : World) (ht : RowsAt w ta 11 (t.map ndRow)) (htl : t.length ≤ 1000) (hgood : ∀ n ∈ t,goodNd n) :
  Calls Tryz.prog 29 #[.slice ta t.length tc] w fun e w' => e = .returned (.int .i64 (checkS t)) ∧ Below w.heap.size w w':=by
 have HC:=keep (tree_check t ta tc w ht htl hgood)
 clear ht htl hgood
 obtain ⟨tl,htl2⟩ : ∃ tl,t.length = tl:=⟨_,rfl⟩
 rw [htl2] at HC ⊢
 clear htl2
 obtain ⟨V,hV⟩ : ∃ V,checkS t = V:=⟨_,rfl⟩
 rw [hV] at HC ⊢
 clear hV
 go_enter Tryz.func29,Tryz.ntmps29
 go_wp2_with fail
 refine HC.out.mono ?_
 rintro e w1 ⟨rfl,hb⟩
 have HB:=Lib.hid hb
 clear hb
 go_wp2_with fail
 go_ret
 exact ⟨rfl,HB.out⟩
end Go.Proofs.YtlngjiibbcgkmaaGreatDoor
namespace Go.Proofs.YtlngjiibbcgkmaaGreatDoor
open Go.RowKit
theorem step_err {t : List Nd} {st : List Pt} {i : Nat} {n : Nd} {c : Int} (h : stepW t st i n = .error c) : (c != 0) = true:=by
 unfold stepW at h
 split at h
 ·cases h; rfl
 split at h
 ·cases h; rfl
 split at h
 ·cases h; rfl
 ·cases h
theorem step_shape {t : List Nd} {st st2 : List Pt} {i : Nat} {n : Nd} (h : stepW t st i n = .ok st2) : ∃ d D,st2 = st.take d ++ [⟨i,D,decide (n.kind = 3)⟩]:=by
 unfold stepW at h
 split at h
 ·cases h
 split at h
 ·cases h
 split at h
 ·cases h
 ·cases h
  exact ⟨_,_,rfl⟩
set_option maxRecDepth 100000 in
set_option maxHeartbeats 8000000 in
theorem ref8_judge (t : List Nd) (ta : Option Addr) (tc : Nat) (w : World) (ht : RowsAt w ta 11 (t.map ndRow)) (htl : t.length ≤ 1000) (hgood : ∀ n ∈ t,goodNd n) :
  Calls Tryz.prog 53 #[.slice ta t.length tc] w (NodeOut (walkW t 0 t []) w):=by
 have HT:=keep ht
 have HG:=keep hgood
 clear ht hgood
 obtain ⟨tl,htl2⟩ : ∃ tl,t.length = tl:=⟨_,rfl⟩
 rw [htl2] at htl ⊢
 have HTL:=keep htl2
 clear htl2
 obtain ⟨V,hV⟩ : ∃ V,walkW t 0 t [] = V:=⟨_,rfl⟩
 rw [hV]
 have HV:=keep hV
 clear hV
 go_enter Tryz.func53,Tryz.ntmps53
 go_wp2_with fail
 go_loopg [4,5] tl (fun gf sv iv wr => ∃ (i : Nat) (st : List Pt),gf = tl - i ∧ iv = .int .i64 (i : Int) ∧ i ≤ tl ∧ st.length ≤ i ∧ Keep (Wlk t i st) ∧ Keep (∀ p ∈ st,p.wide = decide (kindAt t p.root = 3)) ∧ Hid (OkRow w [] 95 2 sv st.length (topCells st) wr))
 case atStart => exact ⟨0,[],by simp,rfl,Nat.zero_le _,Nat.zero_le _,keep ⟨rfl,by simp⟩,keep (by simp),Lib.hid (OkRow.start (Ok.start w) _ _)⟩
 case round =>
  obtain ⟨i,st,hgf,rfl,hit,hsl,HK,HW,HR⟩:=hrel
  obtain ⟨wp,rfl⟩ : ∃ wp : World,wp = wr:=⟨_,rfl⟩
  obtain ⟨sv,rfl⟩ : ∃ sv : Value,sv = u4:=⟨_,rfl⟩
  subst hgf
  by_cases hlt : (i : Int) < tl
  ·have hil : i < t.length:=by rw [HTL.out]; omega
   have HIL:=keep hil
   obtain ⟨n,hn⟩ : ∃ n,t[i]'HIL.out = n:=⟨_,rfl⟩
   have HN:=keep hn
   have hn2 : t[i]? = some n:=by rw [List.getElem?_eq_getElem hil,hn]
   have hgn:=HG.out n (by rw [← hn]; exact List.getElem_mem _)
   have hst : ∀ p ∈ st,p.root < t.length ∧ p.depth ≤ 32 ∧ p.wide = decide (kindAt t p.root = 3):=fun p hp => ⟨Nat.lt_trans (HK.out.2 p hp).1 hil,(HK.out.2 p hp).2,HW.out p hp⟩
   have hcall:=ref8_node t ta tc i n st sv w.heap.size wp (HT.out.below HR.out.ok.bel) (by rw [HTL.out]; exact htl) hn2 hgn hst (by omega) HR.out.ok.bel.size HR.out.own
   rw [HTL.out] at hcall
   have HCALL:=keep hcall
   have HKA:=keep (show kindAt t i = n.kind by unfold kindAt; rw [hn2]; rfl)
   obtain ⟨R,hR⟩ : ∃ R,stepW t st i n = R:=⟨_,rfl⟩
   rw [hR] at HCALL
   have HRR:=keep hR
   clear hil hn hn2 hgn hst hcall hR
   cases R with
   | error c =>
    have hc:=step_err HRR.out
    go_wp2_with fail
    refine (HCALL.out).mono ?_
    rintro e w7 ⟨rfl,hb⟩
    have HB7:=Lib.hid (HR.out.ok.bel.trans (hb.mono HR.out.ok.bel.size))
    clear hb HR HCALL
    have hv : V = .error c:=by
     rw [← HV.out,HK.out.1,List.drop_eq_getElem_cons HIL.out,walkW,HN.out,HRR.out]
    subst hv
    go_wp2_with fail
    exact bodyPost_ret (v:=.tuple #[.slice none 0 0,.int .i64 c]) (by simp [results,Tryz.results53,go_sem]) rfl ⟨rfl,HB7.out⟩
   | ok st2 =>
    go_wp2_with fail
    refine (HCALL.out).mono ?_
    rintro e w7 ⟨v,rfl,hown,hb⟩
    have HR7:=Lib.hid (OkRow.of_new HR.out.ok hb hown)
    clear hb hown HR HCALL
    go_wp2_with fail
    go_roundg (tl - (i + 1))
    case rel =>
     obtain ⟨d,D,hsh⟩:=step_shape HRR.out
     refine ⟨i + 1,st2,rfl,by go_num,by omega,?_,keep (HK.out.next HIL.out (by rw [HN.out]; exact HRR.out)),keep ?_,HR7⟩
     ·rw [hsh,List.length_append,List.length_take,List.length_singleton]
      omega
     ·intro p hp
      rw [hsh] at hp
      rcases List.mem_append.1 hp with hp | hp
      ·exact HW.out p (List.mem_of_mem_take hp)
      ·simp only [List.mem_singleton] at hp
       subst hp
       show decide (n.kind = 3) = decide (kindAt t i = 3)
       rw [HKA.out]
    case measure => omega
  ·obtain rfl : i = tl:=by omega
   have hv : V = .ok st:=by
    rw [← HV.out,HK.out.1,List.drop_of_length_le (by rw [HTL.out]; exact Nat.le_refl _)]
    rfl
   subst hv
   go_wp2_with fail
   exact bodyPost_ret (v:=.tuple #[sv,.int .i64 0]) (by simp [results,Tryz.results53,go_sem]) rfl ⟨sv,rfl,HR.out.own,HR.out.ok.bel⟩
theorem walk_err {t : List Nd} {c : Int} (h : walkW t 0 t [] = .error c) : t ≠ [] ∧ (c != 0) = true:=by
 refine ⟨by rintro rfl; simp [walkW] at h,?_⟩
 have key : ∀ (l : List Nd) (i : Nat) (st : List Pt),walkW t i l st = .error c → (c != 0) = true:=by
  intro l
  induction l with
  | nil => intro i st h; simp [walkW] at h
  | cons n l ih =>
   intro i st h
   rw [walkW] at h
   cases hs : stepW t st i n with
   | error e => rw [hs] at h; cases h; exact step_err hs
   | ok st2 => rw [hs] at h; exact ih _ _ h
 exact key _ _ _ h
set_option maxRecDepth 100000 in
set_option maxHeartbeats 8000000 in
theorem ref8_Depth (t : List Nd) (ta : Option Addr) (tc : Nat) (w : World) (ht : RowsAt w ta 11 (t.map ndRow)) (htl : t.length ≤ 1000) (hgood : ∀ n ∈ t,goodNd n) :
  Calls Tryz.prog 33 #[.slice ta t.length tc] w fun e w' => ∃ d : Int,e = .returned (.tuple #[.int .i64 d,.int .i64 (checkS t)]) ∧ Below w.heap.size w w':=by
 have HJ:=keep (ref8_judge t ta tc w ht htl hgood)
 have HT:=keep ht
 clear ht hgood
 obtain ⟨tl,htl2⟩ : ∃ tl,t.length = tl:=⟨_,rfl⟩
 rw [htl2] at htl HJ ⊢
 have HTL:=keep htl2
 clear htl2
 obtain ⟨V,hV⟩ : ∃ V,checkS t = V:=⟨_,rfl⟩
 rw [hV]
 have HV:=keep hV
 clear hV
 by_cases h256 : 256 < tl
 ·have h256i : (tl : Int) > 256:=by omega
  have hv : V = 5:=by rw [← HV.out]; exact check_long (by rw [HTL.out]; exact h256)
  subst hv
  have HB:=Lib.hid (Below.refl w.heap.size w)
  go_enter Tryz.func33,Tryz.ntmps33
  go_wp2_with fail
  exact bodyPost_ret (v:=.tuple #[.int .i64 0,.int .i64 5]) (by simp [results,Tryz.results33,go_sem]) rfl ⟨0,rfl,HB.out⟩
 ·have h256i : ¬ (tl : Int) > 256:=by omega
  have HNL:=keep (show ¬ 256 < t.length by rw [HTL.out]; exact h256)
  cases hw : walkW t 0 t [] with
  | error c =>
   rw [hw] at HJ
   obtain ⟨h1,h2⟩:=walk_err hw
   have hE : walkE t = c:=by unfold walkE; rw [hw]
   have hc0 : c ≠ 0:=by simpa using h2
   have hv : V = c:=by rw [← HV.out,check_bad HNL.out h1 (by rw [hE]; exact hc0),hE]
   subst hv
   clear hw h1 hE hc0
   go_enter Tryz.func33,Tryz.ntmps33
   go_wp2_with fail
   refine (HJ.out).mono ?_
   rintro e w7 ⟨rfl,hb⟩
   have HB7:=Lib.hid hb
   clear hb HJ
   go_wp2_with fail
   exact bodyPost_ret (v:=.tuple #[.int .i64 0,.int .i64 V]) (by simp [results,Tryz.results33,go_sem]) rfl ⟨0,rfl,HB7.out⟩
  | ok st =>
   rw [hw] at HJ
   have hE : walkE t = if st.length = 1 then 0 else 4:=by unfold walkE; rw [hw]
   have HE:=keep hE
   have HWW:=keep hw
   clear hw hE
   obtain ⟨m,hm⟩ : ∃ m,st.length = m:=⟨_,rfl⟩
   have HM:=keep hm
   clear hm
   by_cases h1 : m = 1
   ·subst h1
    have h0 : t ≠ []:=by
     rintro rfl
     have h9:=HWW.out
     simp [walkW] at h9
     have h8:=HM.out
     rw [h9] at h8
     simp at h8
    have hE0 : walkE t = 0:=by rw [HE.out,if_pos HM.out]
    have hil : tl - 1 < t.length:=by
     have:=List.length_pos_iff.2 h0
     rw [HTL.out] at this ⊢
     omega
    obtain ⟨n,hn⟩ : ∃ n,t[tl - 1]? = some n:=⟨_,List.getElem?_eq_getElem hil⟩
    obtain ⟨nk,hnk⟩ : ∃ nk,n.kind = nk:=⟨_,rfl⟩
    have hv : V = if nk = 3 then 4 else 0:=by rw [← HV.out]; exact check_last HNL.out h0 hE0 (by rw [HTL.out]; exact hn) hnk
    obtain ⟨x,hx⟩ : ∃ x,tl - 1 = x:=⟨_,rfl⟩
    rw [hx] at hn
    obtain ⟨tb,tz,rfl,htb,htcell⟩:=HT.out (by intro e; exact h0 (List.map_eq_nil_iff.1 e))
    have hcl:=htcell x (ndRow n) (by rw [List.getElem?_map,hn]; rfl) 0 (.int .u8 (n.kind : Nat)) rfl
    rw [hnk,← Nat.add_assoc] at hcl
    simp only [Nat.add_zero] at hcl
    have hxl : x + 1 = tl:=by
     rw [HTL.out] at hil
     omega
    have hxi : (x : Int) < (tl : Int):=by omega
    have hxe : (tl : Int) - 1 = (x : Int):=by omega
    have hxw : IntKind.i64.wrap (x : Int) = (x : Int):=Go.IntWalk.i64_in _ (by omega)
    have HCL:=keep hcl
    have HTB:=keep htb
    have HVV:=keep hv
    clear hcl hn htcell hil h0 hE0 hx hxl hv htb hnk
    go_enter Tryz.func33,Tryz.ntmps33
    go_wp2_with fail
    refine (HJ.out).mono ?_
    rintro e w7 ⟨v,rfl,hown,hb⟩
    rw [HM.out] at hown
    have hlt:=hown.lt
    have hoc:=@World.ownsRow.cells _ _ _ _ _ _ _ hown
    rcases hown.2 with ⟨_,h9⟩ | ⟨g,cap,cur,rfl,_,_,hcap,_,_,_⟩
    ·omega
    ·obtain ⟨p,hp⟩ : ∃ p,st = [p]:=List.length_eq_one_iff.1 HM.out
     have hd:=hoc rfl 1 (.int .i64 (p.depth : Nat)) (by rw [hp]; rfl)
     rw [add_at0] at hd
     have hgl:=(hlt g rfl).2
     have hcl2:=(hb.cell HTB.out).trans HCL.out
     have htb2 : tb < w7.heap.size:=Nat.lt_of_lt_of_le HTB.out hb.size
     have HB7:=Lib.hid hb
     clear hb hown hoc hlt HJ
     by_cases h3 : nk = 3
     ·subst h3
      have hv2 : V = 4:=HVV.out
      subst hv2
      go_wp2_with fail
      exact bodyPost_ret (v:=.tuple #[.int .i64 0,.int .i64 4]) (by simp [results,Tryz.results33,go_sem]) rfl ⟨0,rfl,HB7.out⟩
     ·have hv2 : V = 0:=by rw [HVV.out,if_neg h3]
      subst hv2
      have h3b : ((nk : Int) == 3) = false:=by simp; omega
      clear h3
      go_wp2_with fail
      exact bodyPost_ret (v:=.tuple #[.int .i64 (p.depth : Nat),.int .i64 0]) (by simp [results,Tryz.results33,go_sem]) rfl ⟨_,rfl,HB7.out⟩
   ·have hv : V = 4:=by
     rw [← HV.out]
     by_cases h0 : t = []
     ·subst h0; exact check_none
     ·have hE4 : walkE t = 4:=by rw [HE.out,if_neg (by rw [HM.out]; exact h1)]
      rw [check_bad HNL.out h0 (by rw [hE4]; decide),hE4]
    subst hv
    have h1b : ((m : Int) != 1) = true:=by simp; omega
    clear h1
    go_enter Tryz.func33,Tryz.ntmps33
    go_wp2_with fail
    refine (HJ.out).mono ?_
    rintro e w7 ⟨v,rfl,hown,hb⟩
    rw [HM.out] at hown
    have HB7:=Lib.hid hb
    obtain ⟨va,vc,rfl⟩ : ∃ va vc,v = .slice va m vc:=by
     rcases hown.2 with ⟨rfl,h9⟩ | ⟨g,cap,cur,rfl,_⟩
     ·exact ⟨none,0,by rw [h9]⟩
     ·exact ⟨_,_,rfl⟩
    clear hb hown HJ
    go_wp2_with fail
    exact bodyPost_ret (v:=.tuple #[.int .i64 0,.int .i64 4]) (by simp [results,Tryz.results33,go_sem]) rfl ⟨0,rfl,HB7.out⟩
end Go.Proofs.YtlngjiibbcgkmaaGreatDoor
