/- tree.check, Check, Kids and Depth at any nodes. -/
import Derived.Test.YtnbemkiplnanlaaGreatDoorMTwk
namespace Go.Proofs.YtnbemkiplnanlaaGreatDoor
set_option maxRecDepth 100000
set_option maxHeartbeats 4000000
open Go.RowKit
theorem checkA_long {t : List NdA} (h : 256 < t.length) : checkA t = 5:=by unfold checkA; rw [if_pos h]
theorem checkA_none : checkA [] = 4:=by simp [checkA]
theorem checkA_bad {t : List NdA} (h : ¬ 256 < t.length) (h0 : t ≠ []) (hw : walkEX t ≠ 0) : checkA t = walkEX t:=by unfold checkA; rw [if_neg h,if_neg h0,if_pos hw]
theorem checkA_last {t : List NdA} {a : NdA} {k : Nat} (h : ¬ 256 < t.length) (h0 : t ≠ []) (hw : walkEX t = 0) (hn : t[t.length - 1]? = some a) (hk : a.kind = k) : checkA t = if k = 3 then 4 else 0:=by
 unfold checkA
 rw [if_neg h,if_neg h0,if_neg (by rw [hw]; decide),List.getLast?_eq_getElem?,hn,← hk]
 simp
theorem tree_checkV (w0 w : World) (t : List NdA) (ta : Option Addr) (tc : Nat) {σ : Type} (S : σ → List Pers) (R : Nat → σ → Prop) (s0 : σ) (row : Option Nat) (vf : Nat) (lb : Array Value)
  (ht : RowsAt w0 ta 11 (t.map aRow)) (htl : t.length ≤ 1000) (htx : ∀ a ∈ t,a.vt.length ≤ 4611686018427387904) (hok : Ok w0 (S s0) w) (hR0 : R 0 s0) (hout : ∀ b,row = some b → b < w.heap.size)
  (hof : row = none ∨ ∀ s rw,(∀ x ∈ S s,x.far rw) → rw ≠ row) (hvis : VisOk w0 (t.map NdA.nd) t S R row vf lb) (heg : ∀ args w,(callFunc vf args).run Tryz.prog w = .ok (.enter vf args) w) :
  Calls Tryz.prog 74 #[.slice ta t.length tc,.bool false,.func (.func vf) #[] lb] w (WPost w0 t S R (checkA t)):=by
 have HT:=keep ht
 have HSTART:=keep (show ∃ i s,R i s ∧ i ≤ t.length ∧ Ok w0 (S s) w from ⟨0,s0,hR0,Nat.zero_le _,hok⟩)
 have hwalk:=tree_walkV w0 w t ta tc S R s0 row vf lb ht htl htx hok hR0 hout hof hvis heg
 clear ht htx hok hR0 hout hof hvis heg
 obtain ⟨tl,htl2⟩ : ∃ tl,t.length = tl:=⟨_,rfl⟩
 rw [htl2] at htl hwalk ⊢
 have HTL:=keep htl2
 clear htl2
 have HWK:=keep hwalk
 clear hwalk
 obtain ⟨V,hV⟩ : ∃ V,checkA t = V:=⟨_,rfl⟩
 rw [hV]
 have HV:=keep hV
 clear hV
 by_cases h256 : (tl : Int) > 256
 ·have HE:=keep (show V = 5 from HV.out.symm.trans (checkA_long (by rw [HTL.out]; omega)))
  go_enter Tryz.func74,Tryz.ntmps74
  go_wp2_with fail
  go_ret
  obtain ⟨i,s,a1,a2,a3⟩:=HSTART.out
  exact ⟨by rw [HE.out]; rfl,i,s,a1,a2,fun h => absurd h (by rw [HE.out]; decide),a3⟩
 by_cases h0 : tl = 0
 ·subst h0
  have HE:=keep (show V = 4 from HV.out.symm.trans (by rw [List.length_eq_zero_iff.1 HTL.out]; exact checkA_none))
  clear h256
  go_enter Tryz.func74,Tryz.ntmps74
  go_wp2_with fail
  go_ret
  obtain ⟨i,s,a1,a2,a3⟩:=HSTART.out
  exact ⟨by rw [HE.out]; rfl,i,s,a1,a2,fun h => absurd h (by rw [HE.out]; decide),a3⟩
 clear HSTART
 have h0i : ((tl : Int) == 0) = false:=by simpa using h0
 have HN0:=keep (show t ≠ [] by intro e; have h9:=HTL.out; rw [e] at h9; simp at h9; omega)
 have HN256:=keep (show ¬ 256 < t.length by rw [HTL.out]; omega)
 obtain ⟨E,hE⟩ : ∃ E,walkEX t = E:=⟨_,rfl⟩
 have hwk:=HWK.out
 rw [hE] at hwk
 have HWE:=keep hE
 have HWK2:=keep hwk
 clear hwk hE HWK
 by_cases hE0 : E = 0
 ·subst hE0
  obtain ⟨n,hn⟩ : ∃ n,t[t.length - 1]? = some n:=⟨_,List.getElem?_eq_getElem (by rw [HTL.out]; omega)⟩
  obtain ⟨nk,hnk⟩ : ∃ nk,n.kind = nk:=⟨_,rfl⟩
  have HE:=keep (show V = if nk = 3 then 4 else 0 from HV.out.symm.trans (checkA_last HN256.out HN0.out HWE.out hn hnk))
  obtain ⟨tb,tz,hta,htb,htcell⟩:=HT.out (by intro e; have h9:=congrArg List.length e; rw [List.length_map] at h9; simp only [List.length_nil] at h9; have:=HTL.out; omega)
  subst hta
  rw [HTL.out] at hn
  have hc:=htcell (tl - 1) (aRow n) (by rw [List.getElem?_map,hn]; rfl) 0 (.int .u8 (n.kind : Nat)) rfl
  rw [hnk,Nat.add_zero] at hc
  have HC:=keep hc
  have HTB:=keep htb
  have hi1 : IntKind.i64.wrap ((tl : Int) - 1) = (tl : Int) - 1:=Go.IntWalk.i64_in _ (by omega)
  have hi2 : ((tl : Int) - 1).toNat = tl - 1:=by omega
  have hi3 : (tl : Int) - 1 < (tl : Int):=by omega
  have hi4 : (0 : Int) ≤ (tl : Int) - 1:=by omega
  obtain ⟨kn3,hk3⟩ : ∃ b : Bool,((nk : Int) == 3) = b:=⟨_,rfl⟩
  have HK3:=keep hk3
  clear hn hnk htcell hc htb
  go_enter Tryz.func74,Tryz.ntmps74
  go_wp2_with fail
  refine HWK2.out.mono ?_
  rintro e w1 ⟨rfl,i,s,a1,a2,a3,a4⟩
  have hc1:=(a4.bel.cell HTB.out).trans HC.out
  have htb1 : tb < w1.heap.size:=Nat.lt_of_lt_of_le HTB.out a4.bel.size
  have HB:=Lib.hid a4
  have HA1:=keep a1
  have HA2:=keep a2
  have HA3:=keep (a3 rfl)
  clear a1 a2 a3 a4
  go_wp2_with fail
  all_goals go_ret
  all_goals
   have h3:=HK3.out
  ·rename_i hk
   rw [hk,beq_iff_eq] at h3
   refine ⟨?_,i,s,HA1.out,HA2.out,fun _ => HA3.out,HB.out⟩
   rw [HE.out,if_pos (by omega)]; rfl
  ·rename_i hk
   rw [hk,beq_eq_false_iff_ne] at h3
   refine ⟨?_,i,s,HA1.out,HA2.out,fun _ => HA3.out,HB.out⟩
   rw [HE.out,if_neg (by omega)]; rfl
 ·have hE1 : (E != 0) = true:=by simpa using hE0
  have HE:=keep (show V = E from HV.out.symm.trans ((checkA_bad HN256.out HN0.out (by rw [HWE.out]; exact hE0)).trans HWE.out))
  have HEZ:=keep hE0
  clear hE0
  go_enter Tryz.func74,Tryz.ntmps74
  go_wp2_with fail
  refine HWK2.out.mono ?_
  rintro e w1 ⟨rfl,i,s,a1,a2,a3,a4⟩
  have HB:=Lib.hid a4
  have HA1:=keep a1
  have HA2:=keep a2
  clear a1 a2 a3 a4
  go_wp2_with fail
  go_ret
  exact ⟨by rw [HE.out]; rfl,i,s,HA1.out,HA2.out,fun h => absurd (HE.out.symm.trans h) HEZ.out,HB.out⟩
theorem eg_nothing : ∀ args w,(callFunc 75 args).run Tryz.prog w = .ok (.enter 75 args) w:=fun _ _ => by kernel_rfl
theorem vis_nothing (w0 : World) (T : List Nd) (t : List NdA) : VisOk w0 T t (fun _ : Unit => []) (fun _ _ => True) none 75 #[]:=by
 intro i s W kv d st ps _ _ _ _ hok _ _ _
 refine (tree_nothing _ _ _ _).mono ?_
 rintro e w1 ⟨rfl,rfl⟩
 exact ⟨rfl,(),trivial,by simp,hok.tail⟩
theorem tree_checkA (t : List NdA) (ta : Option Addr) (tc : Nat) (w : World) (ht : RowsAt w ta 11 (t.map aRow)) (htl : t.length ≤ 1000) (htx : ∀ a ∈ t,a.vt.length ≤ 4611686018427387904) :
  Calls Tryz.prog 74 #[.slice ta t.length tc,.bool false,.func (.func 75) #[] #[]] w fun e w' => e = .returned (.int .i64 (checkA t)) ∧ Below w.heap.size w w':=by
 refine (tree_checkV w w t ta tc (fun _ : Unit => []) (fun _ _ => True) () none _ #[] ht htl htx (Ok.start w) trivial (fun b h => by cases h) (.inl rfl) (vis_nothing _ _ _) eg_nothing).mono ?_
 rintro e w1 ⟨rfl,i,s,-,-,-,h⟩
 exact ⟨rfl,h.bel⟩
theorem tree_CheckA (t : List NdA) (ta : Option Addr) (tc : Nat) (w : World) (ht : RowsAt w ta 11 (t.map aRow)) (htl : t.length ≤ 1000) (htx : ∀ a ∈ t,a.vt.length ≤ 4611686018427387904) :
  Calls Tryz.prog 43 #[.slice ta t.length tc] w fun e w' => e = .returned (.int .i64 (checkA t)) ∧ Below w.heap.size w w':=by
 have HC:=keep (tree_checkA t ta tc w ht htl htx)
 clear ht htl htx
 obtain ⟨tl,htl2⟩ : ∃ tl,t.length = tl:=⟨_,rfl⟩
 rw [htl2] at HC ⊢
 clear htl2
 obtain ⟨V,hV⟩ : ∃ V,checkA t = V:=⟨_,rfl⟩
 rw [hV] at HC ⊢
 clear hV
 go_enter Tryz.func43,Tryz.ntmps43
 go_wp2_with fail
 refine HC.out.mono ?_
 rintro e w1 ⟨rfl,hb⟩
 have HB:=Lib.hid hb
 clear hb
 go_wp2_with fail
 go_ret
 exact ⟨rfl,HB.out⟩
-- Depth
theorem eg_kids : ∀ args w,(callFunc 130 args).run Tryz.prog w = .ok (.enter 130 args) w:=fun _ _ => by kernel_rfl
def kidS (w0 : World) (T : List Nd) (ib ob i0 : Nat) (s : Option Value) : List Pers:=match s with
 | none => [kVar ob 80 [.slice none 0 0],kBlk ib 3 [.int .i64 (i0 : Nat)]]
 | some kv => [kVar ob 80 [kv],kBlk ib 3 [.int .i64 (i0 : Nat)],kidsRow w0 kv (kidsS T i0)]
def kidR (i0 n : Nat) (s : Option Value) : Prop:=s = none ↔ n ≤ i0
theorem vis_kids (w0 : World) (T : List Nd) (t : List NdA) (ib ob i0 : Nat) (hib : ib ≠ ob) (hb : w0.heap.size ≤ ob) : VisOk w0 T t (kidS w0 T ib ob i0) (kidR i0) (some ob) 130 #[.pointer (some ⟨ib,0,none⟩),.pointer (some ⟨ob,0,none⟩)]:=by
 intro i s W kv d st ps hi hR hst hd hok hps hkr hks
 show Calls Tryz.prog 130 #[.int .i64 (i : Nat),kv,.int .i64 (d : Nat),.pointer (some ⟨ib,0,none⟩),.pointer (some ⟨ob,0,none⟩)] W _
 have HIB:=keep hib
 clear hib
 by_cases he : i = i0
 ·subst he
  obtain rfl : s = none:=hR.2 (Nat.le_refl _)
  obtain ⟨ka,kc,hkv⟩:=own_len (show W.ownsRow w0.heap.size 3 1 kv _ _ from hok.get (kidsRow w0 kv (kidsS T i)) (List.mem_cons_self ..))
  obtain ⟨kn,hkn⟩ : ∃ kn,(kidsS T i).length = kn:=⟨_,rfl⟩
  rw [hkn] at hkv
  subst hkv
  obtain ⟨kv,hkv⟩ : ∃ kv : Value,kv = .slice ka kn kc:=⟨_,rfl⟩
  rw [← hkv] at hok hkr hks ⊢
  have HR:=keep (show kidR i (i + 1) (some kv) from ⟨fun h => by (cases h),fun h => by omega⟩)
  have H1:=Lib.hid (show Ok w0 (kVar ob 80 [.slice none 0 0] :: kBlk ib 3 [.int .i64 (i : Nat)] :: kidsRow w0 kv (kidsS T i) :: ps) W from hok.drop _ (by
   intro x hx
   simp only [kidS,List.mem_cons,List.mem_append,List.not_mem_nil,or_false] at hx ⊢
   rcases hx with h | h | h | h <;> simp [h]))
  have HP:=keep (show ∀ x ∈ (kBlk ib 3 [.int .i64 (i : Nat)] :: kidsRow w0 kv (kidsS T i) :: ps),x.far (some ob) by
   intro x hx
   simp only [List.mem_cons] at hx
   rcases hx with rfl | rfl | hx
   ·show some ib ≠ some ob
    simp only [ne_eq,Option.some.injEq]
    exact HIB.out
   ·exact hkr
   ·exact hps x hx)
  clear hR hst hd hok hps hkr hks hi
  have F:=H1.out.sees
  simp only [sees,kVar,kBlk,cellsAt] at F
  obtain ⟨⟨⟨z0,f0⟩,c0,-⟩,⟨z1,c1,-⟩,-⟩:=F
  obtain ⟨P,hP⟩ : ∃ P : Ending → World → Prop,(fun (e : Ending) (W' : World) => e = .returned (.tuple #[]) ∧ ∃ s',kidR i (i + 1) s' ∧ (∀ rw,(∀ x ∈ kidS w0 T ib ob i none,x.far rw) → (kidsRow w0 kv (kidsS T i)).far rw → ∀ x ∈ kidS w0 T ib ob i s',x.far rw) ∧ Ok w0 (kidS w0 T ib ob i s' ++ ps) W') = P:=⟨_,rfl⟩
  rw [hP]
  have HPP:=keep hP
  clear hP hkn
  subst hkv
  go_enter Tryz.func130,Tryz.ntmps130
  go_wp2_with fail
  have H2:=Lib.hid (H1.out.set_ (i:=0) (u:=.slice ka kn kc) hb HP.out)
  first
   | go_end0
   | refine bodyPost_ret (results_none rfl _ _ _) rfl ?_
  rw [← HPP.out]
  refine ⟨rfl,some (.slice ka kn kc),HR.out,fun rw h hk => ?_,H2.out⟩
  intro x hx
  simp only [kidS,List.mem_cons,List.not_mem_nil,or_false] at hx h
  rcases hx with rfl | rfl | rfl
  ·exact h (kVar ob 80 [.slice none 0 0]) (.inl rfl)
  ·exact h (kBlk ib 3 [.int .i64 (i : Nat)]) (.inr rfl)
  ·exact hk
 ·have hne : ((i : Int) == (i0 : Int)) = false:=by simp; omega
  have HR:=keep (show kidR i0 (i + 1) s by
   constructor
   ·intro h; have:=hR.1 h; omega
   ·intro h; exact hR.2 (by omega))
  have H1:=Lib.hid hok.tail
  clear hR hst hd hok hps hkr hks hi he
  have hF : ib < W.heap.size ∧ W.cell? ⟨ib,0,none⟩ = some (.int .i64 (i0 : Nat)):=by
   have h9 : Blk W ib 3 #[.int .i64 (i0 : Nat)]:=H1.out.get (kBlk ib 3 [.int .i64 (i0 : Nat)]) (by cases s <;> simp [kidS])
   exact ⟨h9.lt,by rw [h9.cell]; rfl⟩
  obtain ⟨z1,c1⟩:=hF
  obtain ⟨P,hP⟩ : ∃ P : Ending → World → Prop,(fun (e : Ending) (W' : World) => e = .returned (.tuple #[]) ∧ ∃ s',kidR i0 (i + 1) s' ∧ (∀ rw,(∀ x ∈ kidS w0 T ib ob i0 s,x.far rw) → (kidsRow w0 kv (kidsS T i)).far rw → ∀ x ∈ kidS w0 T ib ob i0 s',x.far rw) ∧ Ok w0 (kidS w0 T ib ob i0 s' ++ ps) W') = P:=⟨_,rfl⟩
  rw [hP]
  have HPP:=keep hP
  clear hP
  go_enter Tryz.func130,Tryz.ntmps130
  go_wp2_with fail
  first
   | go_end0
   | refine bodyPost_ret (results_none rfl _ _ _) rfl ?_
  rw [← HPP.out]
  exact ⟨rfl,s,HR.out,fun rw h _ => h,H1.out⟩
def KidsOut (ks : List Nat) (w : World) (e : Ending) (w' : World) : Prop :=
 ∃ kv,e = .returned (.tuple #[kv,.int .i64 0]) ∧ w'.ownsRow w.heap.size 3 1 kv ks.length (ks.map fun x => .int .i64 (x : Nat)) ∧ Below w.heap.size w w'
theorem tree_Kids (t : List NdA) (i : Nat) (ta : Option Addr) (tc : Nat) (w : World) (ht : RowsAt w ta 11 (t.map aRow)) (htl : t.length ≤ 1000) (htx : ∀ a ∈ t,a.vt.length ≤ 4611686018427387904) (hc : checkA t = 0) (hi : i < t.length) :
  Calls Tryz.prog 76 #[.slice ta t.length tc,.int .i64 (i : Nat)] w (KidsOut (kidsS (t.map NdA.nd) i) w):=by
 have H1:=Lib.hid (((Ok.start w).alloc w.heap.size 3 [.int .i64 (i : Nat)] rfl).var (w.heap.size + 1) 80 [.slice none 0 0] (by simp))
 have HC:=keep (tree_checkV w ((w.alloc (.cells #[.int .i64 (i : Nat)] 3)).alloc (.cells #[.slice none 0 0] 80)) t ta tc (kidS w (t.map NdA.nd) w.heap.size (w.heap.size + 1) i) (kidR i) none (some (w.heap.size + 1)) _ #[.pointer (some ⟨w.heap.size,0,none⟩),.pointer (some ⟨w.heap.size + 1,0,none⟩)] ht htl htx H1.out ⟨fun _ => Nat.zero_le _,fun _ => rfl⟩ (fun b h => by cases h; simp) (.inr fun s rw h => fun e => by
  subst e
  have h9 : ∃ cs,kVar (w.heap.size + 1) 80 cs ∈ kidS w (t.map NdA.nd) w.heap.size (w.heap.size + 1) i s:=by
   cases s with
   | none => exact ⟨_,List.mem_cons_self ..⟩
   | some kv => exact ⟨_,List.mem_cons_self ..⟩
  obtain ⟨cs,h9⟩:=h9
  exact h _ h9 rfl) (vis_kids w _ t w.heap.size (w.heap.size + 1) i (by omega) (by omega)) eg_kids)
 rw [hc] at HC
 have h0 : ¬ ((i : Int) < 0):=by omega
 have hge : ¬ ((i : Int) ≥ (t.length : Nat)):=by omega
 clear hc ht htx
 obtain ⟨ks,hks⟩ : ∃ ks,kidsS (t.map NdA.nd) i = ks:=⟨_,rfl⟩
 rw [hks]
 have HKS:=keep hks
 clear hks
 obtain ⟨tl,htl2⟩ : ∃ tl,t.length = tl:=⟨_,rfl⟩
 rw [htl2] at HC htl hi hge ⊢
 have HTL:=keep htl2
 clear htl2
 go_enter Tryz.func76,Tryz.ntmps76
 go_wp2_with fail
 refine HC.out.mono ?_
 rintro e w1 ⟨rfl,n,s,a1,a2,a3,a4⟩
 have hn:=a3 rfl
 rw [HTL.out] at hn
 subst hn
 cases s with
 | none => exact absurd (a1.1 rfl) (by omega)
 | some kv =>
  have H2:=Lib.hid a4
  clear a1 a2 a3 a4
  have F:=H2.out.sees
  simp only [kidS,sees,kVar,kBlk,cellsAt] at F
  obtain ⟨⟨⟨z0,f0⟩,c0,-⟩,⟨z1,c1,-⟩,-⟩:=F
  go_wp2_with fail
  refine bodyPost_ret (v:=.tuple #[kv,.int .i64 0]) (by simp [results,Tryz.results76,go_sem]) rfl ⟨kv,rfl,?_,H2.out.bel⟩
  have h9 : w1.ownsRow w.heap.size 3 1 kv _ _:=H2.out.get (kidsRow w kv (kidsS (t.map NdA.nd) i)) (by simp [kidS])
  rw [HKS.out] at h9
  exact h9
end Go.Proofs.YtnbemkiplnanlaaGreatDoor
