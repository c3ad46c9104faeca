/- tree.check, Check, Kids and Depth at any nodes. show.strength, tree.Name, show.Literal and show.own. -/
import Derived.Test.YtfffihcadhfplaaGreatDoorPTwk
import Derived.Test.YtfffihcadhfplaaGreatDoorPShw
import Derived.Test.YtfffihcadhfplaaGreatDoorPEqV
import Derived.Test.YtfffihcadhfplaaGreatDoorPVal
import Derived.Test.YtfffihcadhfplaaGreatDoorPLexI
import Derived.Test.YtfffihcadhfplaaGreatDoorPDecF
namespace Go.Proofs.YtfffihcadhfplaaGreatDoor
set_option maxRecDepth 100000
set_option maxHeartbeats 4000000
open Go.RowKit
theorem checkA_long {t:List NdA} (h:256<t.length):checkA t=5:=by unfold checkA; rw [if_pos h]
theorem checkA_none:checkA []=4:=by simp [checkA]
theorem checkA_bad {t:List NdA} (h:¬ 256<t.length) (h0:t≠[]) (hw:walkEX t≠0):checkA t=walkEX t:=by unfold checkA; rw [if_neg h,if_neg h0,if_pos hw]
theorem checkA_last {t:List NdA} {a:NdA} {k:Nat} (h:¬ 256<t.length) (h0:t≠[]) (hw:walkEX t=0) (hn:t[t.length - 1]?=some a) (hk:a.kind=k):checkA t=if k=3 then 4 else 0:=by
 unfold checkA
 rw [if_neg h,if_neg h0,if_neg (by rw [hw]; decide),List.getLast?_eq_getElem?,hn,← hk]
 simp
theorem tree_checkV (w0 w:World) (t:List NdA) (ta:Option Addr) (tc:Nat) {σ:Type} (S:σ→List Pers) (R:Nat→σ→Prop) (s0:σ) (row:Option Nat) (vf:Nat) (lb:Array Value)
  (ht:RowsAt w0 ta 11 (t.map aRow)) (htl:t.length≤1000) (htx:∀ a∈t,a.vt.length≤4611686018427387904) (hok:Ok w0 (S s0) w) (hR0:R 0 s0) (hout:∀ b,row=some b→b<w.heap.size)
  (hof:row=none∨∀ s rw,(∀ x∈S s,x.far rw)→rw≠row) (hvis:VisOk w0 (t.map NdA.nd) t S R row vf lb) (heg:∀ args w,(callFunc vf args).run Tryz.prog w=.ok (.enter vf args) w) :
  Calls Tryz.prog 88 #[.slice ta t.length tc,.bool false,.func (.func vf) #[] lb] w (WPost w0 t S R (checkA t)):=by
 have HT:=keep ht
 have HSTART:=keep (show ∃ i s,R i s∧i≤t.length∧Ok w0 (S s) w from ⟨0,s0,hR0,Nat.zero_le _,hok⟩)
 have hwalk:=tree_walkV w0 w t ta tc S R s0 row vf lb ht htl htx hok hR0 hout hof hvis heg
 clear ht htx hok hR0 hout hof hvis heg
 obtain ⟨tl,htl2⟩:∃ tl,t.length=tl:=⟨_,rfl⟩
 rw [htl2] at htl hwalk ⊢
 have HTL:=keep htl2
 clear htl2
 have HWK:=keep hwalk
 clear hwalk
 obtain ⟨V,hV⟩:∃ V,checkA t=V:=⟨_,rfl⟩
 rw [hV]
 have HV:=keep hV
 clear hV
 by_cases h256:(tl:Int)>256
 ·have HE:=keep (show V=5 from HV.out.symm.trans (checkA_long (by rw [HTL.out]; omega)))
  go_enter Tryz.func88,Tryz.ntmps88
  go_wp2_with fail
  go_ret
  obtain ⟨i,s,a1,a2,a3⟩:=HSTART.out
  exact ⟨by rw [HE.out]; rfl,i,s,a1,a2,fun h=>absurd h (by rw [HE.out]; decide),a3⟩
 by_cases h0:tl=0
 ·subst h0
  have HE:=keep (show V=4 from HV.out.symm.trans (by rw [List.length_eq_zero_iff.1 HTL.out]; exact checkA_none))
  clear h256
  go_enter Tryz.func88,Tryz.ntmps88
  go_wp2_with fail
  go_ret
  obtain ⟨i,s,a1,a2,a3⟩:=HSTART.out
  exact ⟨by rw [HE.out]; rfl,i,s,a1,a2,fun h=>absurd h (by rw [HE.out]; decide),a3⟩
 clear HSTART
 have h0i:((tl:Int) == 0)=false:=by simpa using h0
 have HN0:=keep (show t≠[] by intro e; have h9:=HTL.out; rw [e] at h9; simp at h9; omega)
 have HN256:=keep (show ¬ 256<t.length by rw [HTL.out]; omega)
 obtain ⟨E,hE⟩:∃ E,walkEX t=E:=⟨_,rfl⟩
 have hwk:=HWK.out
 rw [hE] at hwk
 have HWE:=keep hE
 have HWK2:=keep hwk
 clear hwk hE HWK
 by_cases hE0:E=0
 ·subst hE0
  obtain ⟨n,hn⟩:∃ n,t[t.length - 1]?=some n:=⟨_,List.getElem?_eq_getElem (by rw [HTL.out]; omega)⟩
  obtain ⟨nk,hnk⟩:∃ nk,n.kind=nk:=⟨_,rfl⟩
  have HE:=keep (show V=if nk=3 then 4 else 0 from HV.out.symm.trans (checkA_last HN256.out HN0.out HWE.out hn hnk))
  obtain ⟨tb,tz,hta,htb,htcell⟩:=HT.out (by intro e; have h9:=congrArg List.length e; rw [List.length_map] at h9; simp only [List.length_nil] at h9; have:=HTL.out; omega)
  subst hta
  rw [HTL.out] at hn
  have hc:=htcell (tl - 1) (aRow n) (by rw [List.getElem?_map,hn]; rfl) 0 (.int .u8 (n.kind:Nat)) rfl
  rw [hnk,Nat.add_zero] at hc
  have HC:=keep hc
  have HTB:=keep htb
  have hi1:IntKind.i64.wrap ((tl:Int) - 1)=(tl:Int) - 1:=Go.IntWalk.i64_in _ (by omega)
  have hi2:((tl:Int) - 1).toNat=tl - 1:=by omega
  have hi3:(tl:Int) - 1<(tl:Int):=by omega
  have hi4:(0:Int)≤(tl:Int) - 1:=by omega
  obtain ⟨kn3,hk3⟩:∃ b:Bool,((nk:Int) == 3)=b:=⟨_,rfl⟩
  have HK3:=keep hk3
  clear hn hnk htcell hc htb
  go_enter Tryz.func88,Tryz.ntmps88
  go_wp2_with fail
  refine HWK2.out.mono ?_
  rintro e w1 ⟨rfl,i,s,a1,a2,a3,a4⟩
  have hc1:=(a4.bel.cell HTB.out).trans HC.out
  have htb1:tb<w1.heap.size:=Nat.lt_of_lt_of_le HTB.out a4.bel.size
  have HB:=Lib.hid a4
  have HA1:=keep a1
  have HA2:=keep a2
  have HA3:=keep (a3 rfl)
  clear a1 a2 a3 a4
  go_wp2_with fail
  all_goals go_ret
  all_goals
   have h3:=HK3.out
  ·rename_i hk
   rw [hk,beq_iff_eq] at h3
   refine ⟨?_,i,s,HA1.out,HA2.out,fun _=>HA3.out,HB.out⟩
   rw [HE.out,if_pos (by omega)]; rfl
  ·rename_i hk
   rw [hk,beq_eq_false_iff_ne] at h3
   refine ⟨?_,i,s,HA1.out,HA2.out,fun _=>HA3.out,HB.out⟩
   rw [HE.out,if_neg (by omega)]; rfl
 ·have hE1:(E != 0)=true:=by simpa using hE0
  have HE:=keep (show V=E from HV.out.symm.trans ((checkA_bad HN256.out HN0.out (by rw [HWE.out]; exact hE0)).trans HWE.out))
  have HEZ:=keep hE0
  clear hE0
  go_enter Tryz.func88,Tryz.ntmps88
  go_wp2_with fail
  refine HWK2.out.mono ?_
  rintro e w1 ⟨rfl,i,s,a1,a2,a3,a4⟩
  have HB:=Lib.hid a4
  have HA1:=keep a1
  have HA2:=keep a2
  clear a1 a2 a3 a4
  go_wp2_with fail
  go_ret
  exact ⟨by rw [HE.out]; rfl,i,s,HA1.out,HA2.out,fun h=>absurd (HE.out.symm.trans h) HEZ.out,HB.out⟩
theorem eg_nothing:∀ args w,(callFunc 89 args).run Tryz.prog w=.ok (.enter 89 args) w:=fun _ _=>by kernel_rfl
theorem vis_nothing (w0:World) (T:List Nd) (t:List NdA):VisOk w0 T t (fun _:Unit=>[]) (fun _ _=>True) none 89 #[]:=by
 intro i s W kv d st ps _ _ _ _ hok _ _ _
 refine (tree_nothing _ _ _ _).mono ?_
 rintro e w1 ⟨rfl,rfl⟩
 exact ⟨rfl,(),trivial,by simp,hok.tail⟩
theorem tree_checkA (t:List NdA) (ta:Option Addr) (tc:Nat) (w:World) (ht:RowsAt w ta 11 (t.map aRow)) (htl:t.length≤1000) (htx:∀ a∈t,a.vt.length≤4611686018427387904) :
  Calls Tryz.prog 88 #[.slice ta t.length tc,.bool false,.func (.func 89) #[] #[]] w fun e w'=>e=.returned (.int .i64 (checkA t))∧Below w.heap.size w w':=by
 refine (tree_checkV w w t ta tc (fun _:Unit=>[]) (fun _ _=>True) () none _ #[] ht htl htx (Ok.start w) trivial (fun b h=>by cases h) (.inl rfl) (vis_nothing _ _ _) eg_nothing).mono ?_
 rintro e w1 ⟨rfl,i,s,-,-,-,h⟩
 exact ⟨rfl,h.bel⟩
theorem tree_CheckA (t:List NdA) (ta:Option Addr) (tc:Nat) (w:World) (ht:RowsAt w ta 11 (t.map aRow)) (htl:t.length≤1000) (htx:∀ a∈t,a.vt.length≤4611686018427387904) :
  Calls Tryz.prog 57 #[.slice ta t.length tc] w fun e w'=>e=.returned (.int .i64 (checkA t))∧Below w.heap.size w w':=by
 have HC:=keep (tree_checkA t ta tc w ht htl htx)
 clear ht htl htx
 obtain ⟨tl,htl2⟩:∃ tl,t.length=tl:=⟨_,rfl⟩
 rw [htl2] at HC ⊢
 clear htl2
 obtain ⟨V,hV⟩:∃ V,checkA t=V:=⟨_,rfl⟩
 rw [hV] at HC ⊢
 clear hV
 go_enter Tryz.func57,Tryz.ntmps57
 go_wp2_with fail
 refine HC.out.mono ?_
 rintro e w1 ⟨rfl,hb⟩
 have HB:=Lib.hid hb
 clear hb
 go_wp2_with fail
 go_ret
 exact ⟨rfl,HB.out⟩
-- Depth
theorem eg_kids:∀ args w,(callFunc 118 args).run Tryz.prog w=.ok (.enter 118 args) w:=fun _ _=>by kernel_rfl
def kidS (w0:World) (T:List Nd) (ib ob i0:Nat) (s:Option Value):List Pers:=match s with
 | none=>[kVar ob 125 [.slice none 0 0],kBlk ib 3 [.int .i64 (i0:Nat)]]
 | some kv=>[kVar ob 125 [kv],kBlk ib 3 [.int .i64 (i0:Nat)],kidsRow w0 kv (kidsS T i0)]
def kidR (i0 n:Nat) (s:Option Value):Prop:=s=none↔n≤i0
theorem vis_kids (w0:World) (T:List Nd) (t:List NdA) (ib ob i0:Nat) (hib:ib≠ob) (hb:w0.heap.size≤ob):VisOk w0 T t (kidS w0 T ib ob i0) (kidR i0) (some ob) 118 #[.pointer (some ⟨ib,0,none⟩),.pointer (some ⟨ob,0,none⟩)]:=by
 intro i s W kv d st ps hi hR hst hd hok hps hkr hks
 show Calls Tryz.prog 118 #[.int .i64 (i:Nat),kv,.int .i64 (d:Nat),.pointer (some ⟨ib,0,none⟩),.pointer (some ⟨ob,0,none⟩)] W _
 have HIB:=keep hib
 clear hib
 by_cases he:i=i0
 ·subst he
  obtain rfl:s=none:=hR.2 (Nat.le_refl _)
  obtain ⟨ka,kc,hkv⟩:=own_len (show W.ownsRow w0.heap.size 3 1 kv _ _ from hok.get (kidsRow w0 kv (kidsS T i)) (List.mem_cons_self ..))
  obtain ⟨kn,hkn⟩:∃ kn,(kidsS T i).length=kn:=⟨_,rfl⟩
  rw [hkn] at hkv
  subst hkv
  obtain ⟨kv,hkv⟩:∃ kv:Value,kv=.slice ka kn kc:=⟨_,rfl⟩
  rw [← hkv] at hok hkr hks ⊢
  have HR:=keep (show kidR i (i+1) (some kv) from ⟨fun h=>by (cases h),fun h=>by omega⟩)
  have H1:=Lib.hid (show Ok w0 (kVar ob 125 [.slice none 0 0]::kBlk ib 3 [.int .i64 (i:Nat)]::kidsRow w0 kv (kidsS T i)::ps) W from hok.drop _ (by
   intro x hx
   simp only [kidS,List.mem_cons,List.mem_append,List.not_mem_nil,or_false] at hx ⊢
   rcases hx with h | h | h | h <;> simp [h]))
  have HP:=keep (show ∀ x∈(kBlk ib 3 [.int .i64 (i:Nat)]::kidsRow w0 kv (kidsS T i)::ps),x.far (some ob) by
   intro x hx
   simp only [List.mem_cons] at hx
   rcases hx with rfl | rfl | hx
   ·show some ib≠some ob
    simp only [ne_eq,Option.some.injEq]
    exact HIB.out
   ·exact hkr
   ·exact hps x hx)
  clear hR hst hd hok hps hkr hks hi
  have F:=H1.out.sees
  simp only [sees,kVar,kBlk,cellsAt] at F
  obtain ⟨⟨⟨z0,f0⟩,c0,-⟩,⟨z1,c1,-⟩,-⟩:=F
  obtain ⟨P,hP⟩:∃ P:Ending→World→Prop,(fun (e:Ending) (W':World)=>e=.returned (.tuple #[])∧∃ s',kidR i (i+1) s'∧(∀ rw,(∀ x∈kidS w0 T ib ob i none,x.far rw)→(kidsRow w0 kv (kidsS T i)).far rw→∀ x∈kidS w0 T ib ob i s',x.far rw)∧Ok w0 (kidS w0 T ib ob i s'++ps) W')=P:=⟨_,rfl⟩
  rw [hP]
  have HPP:=keep hP
  clear hP hkn
  subst hkv
  go_enter Tryz.func118,Tryz.ntmps118
  go_wp2_with fail
  have H2:=Lib.hid (H1.out.set_ (i:=0) (u:=.slice ka kn kc) hb HP.out)
  first
   | go_end0
   | refine bodyPost_ret (results_none rfl _ _ _) rfl ?_
  rw [← HPP.out]
  refine ⟨rfl,some (.slice ka kn kc),HR.out,fun rw h hk => ?_,H2.out⟩
  intro x hx
  simp only [kidS,List.mem_cons,List.not_mem_nil,or_false] at hx h
  rcases hx with rfl | rfl | rfl
  ·exact h (kVar ob 125 [.slice none 0 0]) (.inl rfl)
  ·exact h (kBlk ib 3 [.int .i64 (i:Nat)]) (.inr rfl)
  ·exact hk
 ·have hne:((i:Int) == (i0:Int))=false:=by simp; omega
  have HR:=keep (show kidR i0 (i+1) s by
   constructor
   ·intro h; have:=hR.1 h; omega
   ·intro h; exact hR.2 (by omega))
  have H1:=Lib.hid hok.tail
  clear hR hst hd hok hps hkr hks hi he
  have hF:ib<W.heap.size∧W.cell? ⟨ib,0,none⟩=some (.int .i64 (i0:Nat)):=by
   have h9:Blk W ib 3 #[.int .i64 (i0:Nat)]:=H1.out.get (kBlk ib 3 [.int .i64 (i0:Nat)]) (by cases s <;> simp [kidS])
   exact ⟨h9.lt,by rw [h9.cell]; rfl⟩
  obtain ⟨z1,c1⟩:=hF
  obtain ⟨P,hP⟩:∃ P:Ending→World→Prop,(fun (e:Ending) (W':World)=>e=.returned (.tuple #[])∧∃ s',kidR i0 (i+1) s'∧(∀ rw,(∀ x∈kidS w0 T ib ob i0 s,x.far rw)→(kidsRow w0 kv (kidsS T i)).far rw→∀ x∈kidS w0 T ib ob i0 s',x.far rw)∧Ok w0 (kidS w0 T ib ob i0 s'++ps) W')=P:=⟨_,rfl⟩
  rw [hP]
  have HPP:=keep hP
  clear hP
  go_enter Tryz.func118,Tryz.ntmps118
  go_wp2_with fail
  first
   | go_end0
   | refine bodyPost_ret (results_none rfl _ _ _) rfl ?_
  rw [← HPP.out]
  exact ⟨rfl,s,HR.out,fun rw h _=>h,H1.out⟩
def KidsOut (ks:List Nat) (w:World) (e:Ending) (w':World):Prop :=
 ∃ kv,e=.returned (.tuple #[kv,.int .i64 0])∧w'.ownsRow w.heap.size 3 1 kv ks.length (ks.map fun x=>.int .i64 (x:Nat))∧Below w.heap.size w w'
theorem tree_Kids (t:List NdA) (i:Nat) (ta:Option Addr) (tc:Nat) (w:World) (ht:RowsAt w ta 11 (t.map aRow)) (htl:t.length≤1000) (htx:∀ a∈t,a.vt.length≤4611686018427387904) (hc:checkA t=0) (hi:i<t.length) :
  Calls Tryz.prog 90 #[.slice ta t.length tc,.int .i64 (i:Nat)] w (KidsOut (kidsS (t.map NdA.nd) i) w):=by
 have H1:=Lib.hid (((Ok.start w).alloc w.heap.size 3 [.int .i64 (i:Nat)] rfl).var (w.heap.size+1) 125 [.slice none 0 0] (by simp))
 have HC:=keep (tree_checkV w ((w.alloc (.cells #[.int .i64 (i:Nat)] 3)).alloc (.cells #[.slice none 0 0] 125)) t ta tc (kidS w (t.map NdA.nd) w.heap.size (w.heap.size+1) i) (kidR i) none (some (w.heap.size+1)) _ #[.pointer (some ⟨w.heap.size,0,none⟩),.pointer (some ⟨w.heap.size+1,0,none⟩)] ht htl htx H1.out ⟨fun _=>Nat.zero_le _,fun _=>rfl⟩ (fun b h=>by cases h; simp) (.inr fun s rw h=>fun e=>by
  subst e
  have h9:∃ cs,kVar (w.heap.size+1) 125 cs∈kidS w (t.map NdA.nd) w.heap.size (w.heap.size+1) i s:=by
   cases s with
   | none=>exact ⟨_,List.mem_cons_self ..⟩
   | some kv=>exact ⟨_,List.mem_cons_self ..⟩
  obtain ⟨cs,h9⟩:=h9
  exact h _ h9 rfl) (vis_kids w _ t w.heap.size (w.heap.size+1) i (by omega) (by omega)) eg_kids)
 rw [hc] at HC
 have h0:¬ ((i:Int)<0):=by omega
 have hge:¬ ((i:Int)≥(t.length:Nat)):=by omega
 clear hc ht htx
 obtain ⟨ks,hks⟩:∃ ks,kidsS (t.map NdA.nd) i=ks:=⟨_,rfl⟩
 rw [hks]
 have HKS:=keep hks
 clear hks
 obtain ⟨tl,htl2⟩:∃ tl,t.length=tl:=⟨_,rfl⟩
 rw [htl2] at HC htl hi hge ⊢
 have HTL:=keep htl2
 clear htl2
 go_enter Tryz.func90,Tryz.ntmps90
 go_wp2_with fail
 refine HC.out.mono ?_
 rintro e w1 ⟨rfl,n,s,a1,a2,a3,a4⟩
 have hn:=a3 rfl
 rw [HTL.out] at hn
 subst hn
 cases s with
 | none=>exact absurd (a1.1 rfl) (by omega)
 | some kv =>
  have H2:=Lib.hid a4
  clear a1 a2 a3 a4
  have F:=H2.out.sees
  simp only [kidS,sees,kVar,kBlk,cellsAt] at F
  obtain ⟨⟨⟨z0,f0⟩,c0,-⟩,⟨z1,c1,-⟩,-⟩:=F
  go_wp2_with fail
  refine bodyPost_ret (v:=.tuple #[kv,.int .i64 0]) (by simp [results,Tryz.results90,go_sem]) rfl ⟨kv,rfl,?_,H2.out.bel⟩
  have h9:w1.ownsRow w.heap.size 3 1 kv _ _:=H2.out.get (kidsRow w kv (kidsS (t.map NdA.nd) i)) (by simp [kidS])
  rw [HKS.out] at h9
  exact h9
set_option maxRecDepth 100000
set_option maxHeartbeats 4000000
def strT (n:Nd):Nat:=if n.kind=5 then 7 else if n.kind=4 then 5 else if n.kind=6 then (if n.op=5 then 6 else bindS n.op) else 8
theorem str_com (n:Nd) (xs:List Tx) (h:n.kind≤7):(comT n xs).2=strT n:=by
 unfold comT strT
 have:n.kind=0∨n.kind=1∨n.kind=2∨n.kind=3∨n.kind=4∨n.kind=5∨n.kind=6∨n.kind=7:=by omega
 rcases this with g | g | g | g | g | g | g | g <;> simp [g]
 split <;> rfl
theorem show_binary (op:Int) (h1:1≤op) (h12:op≤12) (w:World) :
  Calls Tryz.prog 119 #[.int .i64 op] w fun e w'=>e=.returned (.int .i64 ((if op=5 then 6 else bindS op:Nat):Int))∧Below w.heap.size w w':=by
 have h:op=1∨op=2∨op=3∨op=4∨op=5∨op=6∨op=7∨op=8∨op=9∨op=10∨op=11∨op=12:=by omega
 clear h1 h12
 obtain ⟨V,hV⟩:∃ V:Int,((if op=5 then 6 else bindS op:Nat):Int)=V:=⟨_,rfl⟩
 rw [hV]
 rcases h with rfl | rfl | rfl | rfl | rfl | rfl | rfl | rfl | rfl | rfl | rfl | rfl
 all_goals
  have HV:=keep hV
  clear hV
  go_enter Tryz.func119,Tryz.ntmps119
  go_wp2_with fail
  go_ret
  exact ⟨by rw [← HV.out]; rfl,Below.refl _ _⟩
theorem str_4 (vk vn r1 r2 r3 r4 op fn nn:Int) (s:ByteArray) (w:World) :
  Calls Tryz.prog 92 #[.agg #[.int .u8 4,.int .u8 vk,.int .i64 vn,.string s,.int .i64 r1,.int .i64 r2,.int .i64 r3,.int .i64 r4,.int .i64 op,.int .u8 fn,.int .i64 nn]] w fun e w'=>e=.returned (.int .i64 5)∧Below w.heap.size w w':=by
 have H1:=Lib.hid ((Ok.start w).alloc w.heap.size 96 [.int .u8 4,.int .u8 vk,.int .i64 vn,.string s,.int .i64 r1,.int .i64 r2,.int .i64 r3,.int .i64 r4,.int .i64 op,.int .u8 fn,.int .i64 nn] rfl)
 go_enter Tryz.func92,Tryz.ntmps92
 go_wp2_with fail
 generalize (w.alloc (.cells #[.int .u8 4,.int .u8 vk,.int .i64 vn,.string s,.int .i64 r1,.int .i64 r2,.int .i64 r3,.int .i64 r4,.int .i64 op,.int .u8 fn,.int .i64 nn] 96))=W2 at H1 ⊢
 go_ret
 exact ⟨rfl,H1.out.bel⟩
theorem str_5 (vk vn r1 r2 r3 r4 op fn nn:Int) (s:ByteArray) (w:World) :
  Calls Tryz.prog 92 #[.agg #[.int .u8 5,.int .u8 vk,.int .i64 vn,.string s,.int .i64 r1,.int .i64 r2,.int .i64 r3,.int .i64 r4,.int .i64 op,.int .u8 fn,.int .i64 nn]] w fun e w'=>e=.returned (.int .i64 7)∧Below w.heap.size w w':=by
 have H1:=Lib.hid ((Ok.start w).alloc w.heap.size 96 [.int .u8 5,.int .u8 vk,.int .i64 vn,.string s,.int .i64 r1,.int .i64 r2,.int .i64 r3,.int .i64 r4,.int .i64 op,.int .u8 fn,.int .i64 nn] rfl)
 go_enter Tryz.func92,Tryz.ntmps92
 go_wp2_with fail
 generalize (w.alloc (.cells #[.int .u8 5,.int .u8 vk,.int .i64 vn,.string s,.int .i64 r1,.int .i64 r2,.int .i64 r3,.int .i64 r4,.int .i64 op,.int .u8 fn,.int .i64 nn] 96))=W2 at H1 ⊢
 go_ret
 exact ⟨rfl,H1.out.bel⟩
theorem str_6 (vk vn r1 r2 r3 r4 op fn nn:Int) (s:ByteArray) (h1:1≤op) (h12:op≤12) (w:World) :
  Calls Tryz.prog 92 #[.agg #[.int .u8 6,.int .u8 vk,.int .i64 vn,.string s,.int .i64 r1,.int .i64 r2,.int .i64 r3,.int .i64 r4,.int .i64 op,.int .u8 fn,.int .i64 nn]] w fun e w'=>e=.returned (.int .i64 ((if op=5 then 6 else bindS op:Nat):Int))∧Below w.heap.size w w':=by
 obtain ⟨B,hB⟩:∃ B:Int,((if op=5 then 6 else bindS op:Nat):Int)=B:=⟨_,rfl⟩
 have HBI:=keep (fun w2:World=>show Calls Tryz.prog 119 #[.int .i64 op] w2 fun e w'=>e=.returned (.int .i64 B)∧Below w2.heap.size w2 w' by rw [← hB]; exact show_binary op h1 h12 w2)
 rw [hB]
 clear hB
 have H1:=Lib.hid ((Ok.start w).alloc w.heap.size 96 [.int .u8 6,.int .u8 vk,.int .i64 vn,.string s,.int .i64 r1,.int .i64 r2,.int .i64 r3,.int .i64 r4,.int .i64 op,.int .u8 fn,.int .i64 nn] rfl)
 go_enter Tryz.func92,Tryz.ntmps92
 go_wp2_with fail
 generalize (w.alloc (.cells #[.int .u8 6,.int .u8 vk,.int .i64 vn,.string s,.int .i64 r1,.int .i64 r2,.int .i64 r3,.int .i64 r4,.int .i64 op,.int .u8 fn,.int .i64 nn] 96))=W2 at H1 ⊢
 refine (HBI.out _).mono ?_
 rintro e w3 ⟨rfl,hb4⟩
 have H5:=Lib.hid (H1.out.below hb4)
 clear hb4 H1
 have F6:=H5.out.sees
 simp only [sees,kBlk,cellsAt,Nat.reduceAdd] at F6
 obtain ⟨⟨z0,c00,c01,c02,c03,c04,c05,c06,c07,c08,c09,c0a,-⟩,-⟩:=F6
 go_wp2_with fail
 go_ret
 exact ⟨rfl,H5.out.bel⟩
theorem str_8 (k:Int) (vk vn r1 r2 r3 r4 op fn nn:Int) (s:ByteArray) (h4:(k == 4)=false) (h5:(k == 5)=false) (h6:(k == 6)=false) (w:World) :
  Calls Tryz.prog 92 #[.agg #[.int .u8 k,.int .u8 vk,.int .i64 vn,.string s,.int .i64 r1,.int .i64 r2,.int .i64 r3,.int .i64 r4,.int .i64 op,.int .u8 fn,.int .i64 nn]] w fun e w'=>e=.returned (.int .i64 8)∧Below w.heap.size w w':=by
 have H1:=Lib.hid ((Ok.start w).alloc w.heap.size 96 [.int .u8 k,.int .u8 vk,.int .i64 vn,.string s,.int .i64 r1,.int .i64 r2,.int .i64 r3,.int .i64 r4,.int .i64 op,.int .u8 fn,.int .i64 nn] rfl)
 go_enter Tryz.func92,Tryz.ntmps92
 go_wp2_with fail
 generalize (w.alloc (.cells #[.int .u8 k,.int .u8 vk,.int .i64 vn,.string s,.int .i64 r1,.int .i64 r2,.int .i64 r3,.int .i64 r4,.int .i64 op,.int .u8 fn,.int .i64 nn] 96))=W2 at H1 ⊢
 go_ret
 exact ⟨rfl,H1.out.bel⟩
theorem show_strength (n:Nd) (hg:goodNd n) (w:World) :
  Calls Tryz.prog 92 #[ndA n] w fun e w'=>e=.returned (.int .i64 (strT n:Nat))∧Below w.heap.size w w':=by
 obtain ⟨k,vk,vn,vt,⟨r1,r2,r3,r4⟩,op,fn,nn⟩:=n
 by_cases k4:k=4
 ·subst k4; exact str_4 vk vn r1 r2 r3 r4 op fn nn _ w
 by_cases k5:k=5
 ·subst k5; exact str_5 vk vn r1 r2 r3 r4 op fn nn _ w
 by_cases k6:k=6
 ·subst k6
  have hop:1≤op∧op≤12:=by
   rcases hg with ⟨_,_,_,h,_⟩ | ⟨r,h,_⟩ | ⟨r,h,_⟩ | h | h | ⟨o,h,h1,h2⟩ | ⟨_,_,h,_⟩
   ·injection h with h; exact absurd h (by decide)
   ·injection h with h; exact absurd h (by decide)
   ·injection h with h; exact absurd h (by decide)
   ·injection h with h; exact absurd h (by decide)
   ·injection h with h; exact absurd h (by decide)
   ·injection h with _ _ _ _ _ h; subst h; exact ⟨h1,h2⟩
   ·injection h with h; exact absurd h (by decide)
  exact str_6 vk vn r1 r2 r3 r4 op fn nn _ hop.1 hop.2 w
 ·have e:strT ⟨k,vk,vn,vt,⟨r1,r2,r3,r4⟩,op,fn,nn⟩=8:=by
   unfold strT
   rw [if_neg k5,if_neg k4,if_neg k6]
  rw [e]
  exact str_8 k vk vn r1 r2 r3 r4 op fn nn _ (by simp; omega) (by simp; omega) (by simp; omega) w
-- names
theorem name_0 (w:World):(Instr.index 181 (.agg namesV.toArray) (.int .u8 0)).run Tryz.prog w=.ok (.string ⟨(nameF 1).toArray⟩) w:=by kernel_rfl
theorem name_1 (w:World):(Instr.index 181 (.agg namesV.toArray) (.int .u8 1)).run Tryz.prog w=.ok (.string ⟨(nameF 2).toArray⟩) w:=by kernel_rfl
theorem name_2 (w:World):(Instr.index 181 (.agg namesV.toArray) (.int .u8 2)).run Tryz.prog w=.ok (.string ⟨(nameF 3).toArray⟩) w:=by kernel_rfl
theorem name_3 (w:World):(Instr.index 181 (.agg namesV.toArray) (.int .u8 3)).run Tryz.prog w=.ok (.string ⟨(nameF 4).toArray⟩) w:=by kernel_rfl
theorem name_4 (w:World):(Instr.index 181 (.agg namesV.toArray) (.int .u8 4)).run Tryz.prog w=.ok (.string ⟨(nameF 5).toArray⟩) w:=by kernel_rfl
theorem name_5 (w:World):(Instr.index 181 (.agg namesV.toArray) (.int .u8 5)).run Tryz.prog w=.ok (.string ⟨(nameF 6).toArray⟩) w:=by kernel_rfl
theorem name_6 (w:World):(Instr.index 181 (.agg namesV.toArray) (.int .u8 6)).run Tryz.prog w=.ok (.string ⟨(nameF 7).toArray⟩) w:=by kernel_rfl
theorem name_7 (w:World):(Instr.index 181 (.agg namesV.toArray) (.int .u8 7)).run Tryz.prog w=.ok (.string ⟨(nameF 8).toArray⟩) w:=by kernel_rfl
theorem name_8 (w:World):(Instr.index 181 (.agg namesV.toArray) (.int .u8 8)).run Tryz.prog w=.ok (.string ⟨(nameF 9).toArray⟩) w:=by kernel_rfl
theorem name_9 (w:World):(Instr.index 181 (.agg namesV.toArray) (.int .u8 9)).run Tryz.prog w=.ok (.string ⟨(nameF 10).toArray⟩) w:=by kernel_rfl
theorem name_10 (w:World):(Instr.index 181 (.agg namesV.toArray) (.int .u8 10)).run Tryz.prog w=.ok (.string ⟨(nameF 11).toArray⟩) w:=by kernel_rfl
theorem name_11 (w:World):(Instr.index 181 (.agg namesV.toArray) (.int .u8 11)).run Tryz.prog w=.ok (.string ⟨(nameF 12).toArray⟩) w:=by kernel_rfl
theorem name_12 (w:World):(Instr.index 181 (.agg namesV.toArray) (.int .u8 12)).run Tryz.prog w=.ok (.string ⟨(nameF 13).toArray⟩) w:=by kernel_rfl
theorem name_13 (w:World):(Instr.index 181 (.agg namesV.toArray) (.int .u8 13)).run Tryz.prog w=.ok (.string ⟨(nameF 14).toArray⟩) w:=by kernel_rfl
theorem name_14 (w:World):(Instr.index 181 (.agg namesV.toArray) (.int .u8 14)).run Tryz.prog w=.ok (.string ⟨(nameF 15).toArray⟩) w:=by kernel_rfl
theorem name_15 (w:World):(Instr.index 181 (.agg namesV.toArray) (.int .u8 15)).run Tryz.prog w=.ok (.string ⟨(nameF 16).toArray⟩) w:=by kernel_rfl
theorem name_16 (w:World):(Instr.index 181 (.agg namesV.toArray) (.int .u8 16)).run Tryz.prog w=.ok (.string ⟨(nameF 17).toArray⟩) w:=by kernel_rfl
theorem name_17 (w:World):(Instr.index 181 (.agg namesV.toArray) (.int .u8 17)).run Tryz.prog w=.ok (.string ⟨(nameF 18).toArray⟩) w:=by kernel_rfl
theorem name_18 (w:World):(Instr.index 181 (.agg namesV.toArray) (.int .u8 18)).run Tryz.prog w=.ok (.string ⟨(nameF 19).toArray⟩) w:=by kernel_rfl
theorem name_19 (w:World):(Instr.index 181 (.agg namesV.toArray) (.int .u8 19)).run Tryz.prog w=.ok (.string ⟨(nameF 20).toArray⟩) w:=by kernel_rfl
theorem name_20 (w:World):(Instr.index 181 (.agg namesV.toArray) (.int .u8 20)).run Tryz.prog w=.ok (.string ⟨(nameF 21).toArray⟩) w:=by kernel_rfl
theorem name_21 (w:World):(Instr.index 181 (.agg namesV.toArray) (.int .u8 21)).run Tryz.prog w=.ok (.string ⟨(nameF 22).toArray⟩) w:=by kernel_rfl
theorem name_22 (w:World):(Instr.index 181 (.agg namesV.toArray) (.int .u8 22)).run Tryz.prog w=.ok (.string ⟨(nameF 23).toArray⟩) w:=by kernel_rfl
theorem name_23 (w:World):(Instr.index 181 (.agg namesV.toArray) (.int .u8 23)).run Tryz.prog w=.ok (.string ⟨(nameF 24).toArray⟩) w:=by kernel_rfl
theorem name_24 (w:World):(Instr.index 181 (.agg namesV.toArray) (.int .u8 24)).run Tryz.prog w=.ok (.string ⟨(nameF 25).toArray⟩) w:=by kernel_rfl
theorem name_25 (w:World):(Instr.index 181 (.agg namesV.toArray) (.int .u8 25)).run Tryz.prog w=.ok (.string ⟨(nameF 26).toArray⟩) w:=by kernel_rfl
theorem name_26 (w:World):(Instr.index 181 (.agg namesV.toArray) (.int .u8 26)).run Tryz.prog w=.ok (.string ⟨(nameF 27).toArray⟩) w:=by kernel_rfl
theorem name_27 (w:World):(Instr.index 181 (.agg namesV.toArray) (.int .u8 27)).run Tryz.prog w=.ok (.string ⟨(nameF 28).toArray⟩) w:=by kernel_rfl
theorem name_28 (w:World):(Instr.index 181 (.agg namesV.toArray) (.int .u8 28)).run Tryz.prog w=.ok (.string ⟨(nameF 29).toArray⟩) w:=by kernel_rfl
theorem name_29 (w:World):(Instr.index 181 (.agg namesV.toArray) (.int .u8 29)).run Tryz.prog w=.ok (.string ⟨(nameF 30).toArray⟩) w:=by kernel_rfl
theorem name_30 (w:World):(Instr.index 181 (.agg namesV.toArray) (.int .u8 30)).run Tryz.prog w=.ok (.string ⟨(nameF 31).toArray⟩) w:=by kernel_rfl
theorem name_31 (w:World):(Instr.index 181 (.agg namesV.toArray) (.int .u8 31)).run Tryz.prog w=.ok (.string ⟨(nameF 32).toArray⟩) w:=by kernel_rfl
theorem name_32 (w:World):(Instr.index 181 (.agg namesV.toArray) (.int .u8 32)).run Tryz.prog w=.ok (.string ⟨(nameF 33).toArray⟩) w:=by kernel_rfl
theorem name_33 (w:World):(Instr.index 181 (.agg namesV.toArray) (.int .u8 33)).run Tryz.prog w=.ok (.string ⟨(nameF 34).toArray⟩) w:=by kernel_rfl
theorem name_34 (w:World):(Instr.index 181 (.agg namesV.toArray) (.int .u8 34)).run Tryz.prog w=.ok (.string ⟨(nameF 35).toArray⟩) w:=by kernel_rfl
theorem name_35 (w:World):(Instr.index 181 (.agg namesV.toArray) (.int .u8 35)).run Tryz.prog w=.ok (.string ⟨(nameF 36).toArray⟩) w:=by kernel_rfl
theorem name_36 (w:World):(Instr.index 181 (.agg namesV.toArray) (.int .u8 36)).run Tryz.prog w=.ok (.string ⟨(nameF 37).toArray⟩) w:=by kernel_rfl
theorem name_37 (w:World):(Instr.index 181 (.agg namesV.toArray) (.int .u8 37)).run Tryz.prog w=.ok (.string ⟨(nameF 38).toArray⟩) w:=by kernel_rfl
theorem name_38 (w:World):(Instr.index 181 (.agg namesV.toArray) (.int .u8 38)).run Tryz.prog w=.ok (.string ⟨(nameF 39).toArray⟩) w:=by kernel_rfl
theorem name_39 (w:World):(Instr.index 181 (.agg namesV.toArray) (.int .u8 39)).run Tryz.prog w=.ok (.string ⟨(nameF 40).toArray⟩) w:=by kernel_rfl
theorem name_40 (w:World):(Instr.index 181 (.agg namesV.toArray) (.int .u8 40)).run Tryz.prog w=.ok (.string ⟨(nameF 41).toArray⟩) w:=by kernel_rfl
theorem name_41 (w:World):(Instr.index 181 (.agg namesV.toArray) (.int .u8 41)).run Tryz.prog w=.ok (.string ⟨(nameF 42).toArray⟩) w:=by kernel_rfl
theorem name_42 (w:World):(Instr.index 181 (.agg namesV.toArray) (.int .u8 42)).run Tryz.prog w=.ok (.string ⟨(nameF 43).toArray⟩) w:=by kernel_rfl
theorem name_43 (w:World):(Instr.index 181 (.agg namesV.toArray) (.int .u8 43)).run Tryz.prog w=.ok (.string ⟨(nameF 44).toArray⟩) w:=by kernel_rfl
theorem name_44 (w:World):(Instr.index 181 (.agg namesV.toArray) (.int .u8 44)).run Tryz.prog w=.ok (.string ⟨(nameF 45).toArray⟩) w:=by kernel_rfl
theorem name_45 (w:World):(Instr.index 181 (.agg namesV.toArray) (.int .u8 45)).run Tryz.prog w=.ok (.string ⟨(nameF 46).toArray⟩) w:=by kernel_rfl
theorem name_46 (w:World):(Instr.index 181 (.agg namesV.toArray) (.int .u8 46)).run Tryz.prog w=.ok (.string ⟨(nameF 47).toArray⟩) w:=by kernel_rfl
theorem name_47 (w:World):(Instr.index 181 (.agg namesV.toArray) (.int .u8 47)).run Tryz.prog w=.ok (.string ⟨(nameF 48).toArray⟩) w:=by kernel_rfl
theorem name_48 (w:World):(Instr.index 181 (.agg namesV.toArray) (.int .u8 48)).run Tryz.prog w=.ok (.string ⟨(nameF 49).toArray⟩) w:=by kernel_rfl
theorem name_49 (w:World):(Instr.index 181 (.agg namesV.toArray) (.int .u8 49)).run Tryz.prog w=.ok (.string ⟨(nameF 50).toArray⟩) w:=by kernel_rfl
theorem names_at (fn:Nat) (h1:1≤fn) (h50:fn≤50) (w:World):(Instr.index 181 (.agg namesV.toArray) (.int .u8 ((fn:Int) - 1))).run Tryz.prog w=.ok (.string ⟨(nameF fn).toArray⟩) w:=by
 obtain ⟨j,rfl⟩:∃ j,fn=j+1:=⟨fn - 1,by omega⟩
 rw [show (((j+1:Nat):Int) - 1)=(j:Int) by omega]
 match j,(show j<50 by omega) with
 | 0,_=>exact name_0 w
 | 1,_=>exact name_1 w
 | 2,_=>exact name_2 w
 | 3,_=>exact name_3 w
 | 4,_=>exact name_4 w
 | 5,_=>exact name_5 w
 | 6,_=>exact name_6 w
 | 7,_=>exact name_7 w
 | 8,_=>exact name_8 w
 | 9,_=>exact name_9 w
 | 10,_=>exact name_10 w
 | 11,_=>exact name_11 w
 | 12,_=>exact name_12 w
 | 13,_=>exact name_13 w
 | 14,_=>exact name_14 w
 | 15,_=>exact name_15 w
 | 16,_=>exact name_16 w
 | 17,_=>exact name_17 w
 | 18,_=>exact name_18 w
 | 19,_=>exact name_19 w
 | 20,_=>exact name_20 w
 | 21,_=>exact name_21 w
 | 22,_=>exact name_22 w
 | 23,_=>exact name_23 w
 | 24,_=>exact name_24 w
 | 25,_=>exact name_25 w
 | 26,_=>exact name_26 w
 | 27,_=>exact name_27 w
 | 28,_=>exact name_28 w
 | 29,_=>exact name_29 w
 | 30,_=>exact name_30 w
 | 31,_=>exact name_31 w
 | 32,_=>exact name_32 w
 | 33,_=>exact name_33 w
 | 34,_=>exact name_34 w
 | 35,_=>exact name_35 w
 | 36,_=>exact name_36 w
 | 37,_=>exact name_37 w
 | 38,_=>exact name_38 w
 | 39,_=>exact name_39 w
 | 40,_=>exact name_40 w
 | 41,_=>exact name_41 w
 | 42,_=>exact name_42 w
 | 43,_=>exact name_43 w
 | 44,_=>exact name_44 w
 | 45,_=>exact name_45 w
 | 46,_=>exact name_46 w
 | 47,_=>exact name_47 w
 | 48,_=>exact name_48 w
 | 49,_=>exact name_49 w
 | n+50,h=>omega
theorem tree_Name (fn:Nat) (h1:1≤fn) (h50:fn≤50) (w:World) :
  Calls Tryz.prog 123 #[.int .u8 (fn:Nat)] w fun e w'=>e=.returned (.tuple #[.string ⟨(nameF fn).toArray⟩,.int .i64 0])∧Below w.heap.size w w':=by
 have HN:=names_at fn h1 h50
 have hw8:IntKind.u8.wrap ((fn:Int) - 1)=(fn:Int) - 1:=Go.IntWalk.u8_in _ (by omega)
 obtain ⟨NV,hNV⟩:∃ NV,namesV.toArray=NV:=⟨_,rfl⟩
 rw [hNV] at HN
 have HTN:=keep (fun w2:World=>show Calls Tryz.prog 143 #[] w2 fun e w'=>e=.returned (.agg NV)∧Below w2.heap.size w2 w' by rw [← hNV]; exact tree_names w2)
 clear hNV
 obtain ⟨X,hX⟩:∃ X,nameF fn=X:=⟨_,rfl⟩
 rw [hX] at HN ⊢
 clear hX
 go_enter Tryz.func123,Tryz.ntmps123
 go_wp2_with fail
 refine (tree_known fn _ h1 h50).mono ?_
 rintro e w1 ⟨rfl,hw⟩
 obtain rfl:w=w1:=hw.symm
 go_wp2_with fail
 refine (HTN.out _).mono ?_
 rintro e w2 ⟨rfl,hb⟩
 have HB:=Lib.hid hb
 clear hb
 go_wp2_with fail
 exact bodyPost_ret (v:=.tuple #[.string ⟨X.toArray⟩,.int .i64 0]) (by simp [results,Tryz.results123,go_sem]) rfl ⟨rfl,HB.out⟩
