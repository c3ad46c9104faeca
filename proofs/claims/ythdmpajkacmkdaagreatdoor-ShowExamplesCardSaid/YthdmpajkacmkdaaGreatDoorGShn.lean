/- tree.check, Check, Kids and Depth at any nodes. show.strength, tree.Name, show.Literal and show.own. -/
import Derived.Test.YthdmpajkacmkdaaGreatDoorGTwk
import Derived.Test.YthdmpajkacmkdaaGreatDoorGTg
import Derived.Test.YthdmpajkacmkdaaGreatDoorGShw
import Derived.Test.YthdmpajkacmkdaaGreatDoorGSgn
import Derived.Test.YthdmpajkacmkdaaGreatDoorGParP
import Derived.Test.YthdmpajkacmkdaaGreatDoorGLexI
import Derived.Test.YthdmpajkacmkdaaGreatDoorGDecF
namespace Go.Proofs.YthdmpajkacmkdaaGreatDoor
set_option maxRecDepth 100000
set_option maxHeartbeats 4000000
open Go.RowKit Go.Proofs.Tryz
theorem kJ {t:List NdA} (h:256<t.length):aC t=5:=by unfold aC; rw [if_pos h]
theorem kK:aC []=4:=by simp [aC]
theorem iY {t:List NdA} (h:¬ 256<t.length) (h0:t≠[]) (hw:bO t≠0):aC t=bO t:=by unfold aC; rw [if_neg h,if_neg h0,if_pos hw]
theorem kI {t:List NdA} {a:NdA} {k:Nat} (h:¬ 256<t.length) (h0:t≠[]) (hw:bO t=0) (hn:t[t.length - 1]?=some a) (hk:a.kind=k):aC t=if k=3 then 4 else 0:=by
 unfold aC
 rw [if_neg h,if_neg h0,if_neg (by rw [hw]; decide),List.getLast?_eq_getElem?,hn,← hk]
 simp
theorem lh (w0 w:World) (t:List NdA) (ta:Option Addr) (tc:Nat) {σ:Type} (S:σ→List aZ) (R:Nat→σ→Prop) (s0:σ) (row:Option Nat) (vf:Nat) (lb:Array Value)
  (ht:ax w0 ta 11 (t.map bf)) (htl:t.length≤1000) (htx:∀ a∈t,a.vt.length≤4611686018427387904) (hok:Ok w0 (S s0) w) (hR0:R 0 s0) (hout:∀ b,row=some b→b<w.heap.size)
  (hof:row=none∨∀ s rw,(∀ x∈S s,x.far rw)→rw≠row) (hvis:rG w0 (t.map NdA.nd) t S R row vf lb) (heg:∀ args w,(callFunc vf args).run prog w=.ok (.enter vf args) w) :
  Calls prog 39 #[.slice ta t.length tc,.bool false,.func (.func vf) #[] lb] w (zE w0 t S R (aC t)):=by
 have HT:=keep ht
 have HSTART:=keep (show ∃ i s,R i s∧i≤t.length∧Ok w0 (S s) w from ⟨0,s0,hR0,Nat.zero_le _,hok⟩)
 have hwalk:=ry w0 w t ta tc S R s0 row vf lb ht htl htx hok hR0 hout hof hvis heg
 clear ht htx hok hR0 hout hof hvis heg
 obtain ⟨tl,htl2⟩:=ex (t.length)
 rw [htl2] at htl hwalk ⊢
 have HTL:=keep htl2
 clear htl2
 have HWK:=keep hwalk
 clear hwalk
 obtain ⟨V,hV⟩:=ex (aC t)
 rw [hV]
 have HV:=keep hV
 clear hV
 by_cases h256:(tl:Int)>256
 ·have HE:=keep (show V=5 from HV.out.symm.trans (kJ (by rw [HTL.out]; omega)))
  go_enter func39,ntmps39
  go_wp2_with fail
  go_ret
  obtain ⟨i,s,a1,a2,a3⟩:=HSTART.out
  exact ⟨by rw [HE.out]; rfl,i,s,a1,a2,fun h=>absurd h (by rw [HE.out]; decide),a3⟩
 by_cases h0:tl=0
 ·subst h0
  have HE:=keep (show V=4 from HV.out.symm.trans (by rw [List.length_eq_zero_iff.1 HTL.out]; exact kK))
  clear h256
  go_enter func39,ntmps39
  go_wp2_with fail
  go_ret
  obtain ⟨i,s,a1,a2,a3⟩:=HSTART.out
  exact ⟨by rw [HE.out]; rfl,i,s,a1,a2,fun h=>absurd h (by rw [HE.out]; decide),a3⟩
 clear HSTART
 have h0i:((tl:Int) == 0)=false:=by simpa using h0
 have HN0:=keep (show t≠[] by intro e; have h9:=HTL.out; rw [e] at h9; simp at h9; omega)
 have HN256:=keep (show ¬ 256<t.length by rw [HTL.out]; omega)
 obtain ⟨E,hE⟩:=ex (bO t)
 have hwk:=HWK.out
 rw [hE] at hwk
 have HWE:=keep hE
 have HWK2:=keep hwk
 clear hwk hE HWK
 by_cases hE0:E=0
 ·subst hE0
  obtain ⟨n,hn⟩:∃ n,t[t.length - 1]?=some n:=⟨_,List.getElem?_eq_getElem (by rw [HTL.out]; omega)⟩
  obtain ⟨nk,hnk⟩:=ex (n.kind)
  have HE:=keep (show V=if nk=3 then 4 else 0 from HV.out.symm.trans (kI HN256.out HN0.out HWE.out hn hnk))
  obtain ⟨tb,tz,hta,htb,htcell⟩:=HT.out (by intro e; have h9:=congrArg List.length e; rw [List.length_map] at h9; simp only [List.length_nil] at h9; have:=HTL.out; omega)
  subst hta
  rw [HTL.out] at hn
  have hc:=htcell (tl - 1) (bf n) (by rw [List.getElem?_map,hn]; rfl) 0 (.int .u8 (n.kind:Nat)) rfl
  rw [hnk,Nat.add_zero] at hc
  have HC:=keep hc
  have HTB:=keep htb
  have hi1:IntKind.i64.wrap ((tl:Int) - 1)=(tl:Int) - 1:=Go.IntWalk.i64_in _ (by omega)
  have hi2:((tl:Int) - 1).toNat=tl - 1:=by omega
  have hi3:(tl:Int) - 1<(tl:Int):=by omega
  have hi4:(0:Int)≤(tl:Int) - 1:=by omega
  obtain ⟨kn3,hk3⟩:∃ b:Bool,((nk:Int) == 3)=b:=⟨_,rfl⟩
  have HK3:=keep hk3
  clear hn hnk htcell hc htb
  go_enter func39,ntmps39
  go_wp2_with fail
  refine HWK2.out.mono ?_
  rintro e w1 ⟨rfl,i,s,a1,a2,a3,a4⟩
  have hc1:=(a4.bel.cell HTB.out).trans HC.out
  have htb1:tb<w1.heap.size:=Nat.lt_of_lt_of_le HTB.out a4.bel.size
  have HB:=Lib.hid a4
  have HA1:=keep a1
  have HA2:=keep a2
  have HA3:=keep (a3 rfl)
  clear a1 a2 a3 a4
  go_wp2_with fail
  all_goals go_ret
  all_goals
   have h3:=HK3.out
  ·rename_i hk
   rw [hk,beq_iff_eq] at h3
   refine ⟨?_,i,s,HA1.out,HA2.out,fun _=>HA3.out,HB.out⟩
   rw [HE.out,if_pos (by omega)]; rfl
  rename_i hk
  rw [hk,beq_eq_false_iff_ne] at h3
  refine ⟨?_,i,s,HA1.out,HA2.out,fun _=>HA3.out,HB.out⟩
  rw [HE.out,if_neg (by omega)]; rfl
 have hE1:(E != 0)=true:=by simpa using hE0
 have HE:=keep (show V=E from HV.out.symm.trans ((iY HN256.out HN0.out (by rw [HWE.out]; exact hE0)).trans HWE.out))
 have HEZ:=keep hE0
 clear hE0
 go_enter func39,ntmps39
 go_wp2_with fail
 refine HWK2.out.mono ?_
 rintro e w1 ⟨rfl,i,s,a1,a2,a3,a4⟩
 have HB:=Lib.hid a4
 have HA1:=keep a1
 have HA2:=keep a2
 clear a1 a2 a3 a4
 go_wp2_with fail
 go_ret
 exact ⟨by rw [HE.out]; rfl,i,s,HA1.out,HA2.out,fun h=>absurd (HE.out.symm.trans h) HEZ.out,HB.out⟩
theorem qi:∀ args w,(callFunc 40 args).run prog w=.ok (.enter 40 args) w:=fun _ _=>by kernel_rfl
theorem pR (w0:World) (T:List Nd) (t:List NdA):rG w0 T t (fun _:Unit=>[]) (fun _ _=>True) none 40 #[]:=by
 intro i s W kv d st ps _ _ _ _ hok _ _ _
 refine (oe _ _ _ _).mono ?_
 rintro e w1 ⟨rfl,rfl⟩
 exact ⟨rfl,(),trivial,by simp,hok.tail⟩
theorem pM (t:List NdA) (ta:Option Addr) (tc:Nat) (w:World) (ht:ax w ta 11 (t.map bf)) (htl:t.length≤1000) (htx:∀ a∈t,a.vt.length≤4611686018427387904) :
  Calls prog 39 #[.slice ta t.length tc,.bool false,.func (.func 40) #[] #[]] w fun e w'=>e=.returned (.int .i64 (aC t))∧Below w.heap.size w w':=by
 refine (lh w w t ta tc (fun _:Unit=>[]) (fun _ _=>True) () none _ #[] ht htl htx (Ok.start w) trivial (fun b h=>by cases h) (.inl rfl) (pR _ _ _) qi).mono ?_
 rintro e w1 ⟨rfl,i,s,-,-,-,h⟩
 exact ⟨rfl,h.bel⟩
theorem bZ (t:List NdA) (ta:Option Addr) (tc:Nat) (w:World) (ht:ax w ta 11 (t.map bf)) (htl:t.length≤1000) (htx:∀ a∈t,a.vt.length≤4611686018427387904) :
  Calls prog 20 #[.slice ta t.length tc] w fun e w'=>e=.returned (.int .i64 (aC t))∧Below w.heap.size w w':=by
 have HC:=keep (pM t ta tc w ht htl htx)
 clear ht htl htx
 obtain ⟨tl,htl2⟩:=ex (t.length)
 rw [htl2] at HC ⊢
 clear htl2
 obtain ⟨V,hV⟩:=ex (aC t)
 rw [hV] at HC ⊢
 clear hV
 go_enter func20,ntmps20
 go_wp2_with fail
 refine HC.out.mono ?_
 rintro e w1 ⟨rfl,hb⟩
 have HB:=Lib.hid hb
 clear hb
 go_wp2_with fail
 go_ret
 exact ⟨rfl,HB.out⟩
-- Depth
theorem xh:∀ args w,(callFunc 74 args).run prog w=.ok (.enter 74 args) w:=fun _ _=>by kernel_rfl
def ju (w0:World) (T:List Nd) (ib ob i0:Nat) (s:Option Value):List aZ:=match s with
 | none=>[ah ob 50 [.slice none 0 0],af ib 3 [.int .i64 (i0:Nat)]]
 | some kv=>[ah ob 50 [kv],af ib 3 [.int .i64 (i0:Nat)],bu w0 kv (ae T i0)]
def tw (i0 n:Nat) (s:Option Value):Prop:=s=none↔n≤i0
theorem wK (w0:World) (T:List Nd) (t:List NdA) (ib ob i0:Nat) (hib:ib≠ob) (hb:w0.heap.size≤ob):rG w0 T t (ju w0 T ib ob i0) (tw i0) (some ob) 74 #[.pointer (some ⟨ib,0,none⟩),.pointer (some ⟨ob,0,none⟩)]:=by
 intro i s W kv d st ps hi hR hst hd hok hps hkr hks
 show Calls prog 74 #[.int .i64 (i:Nat),kv,.int .i64 (d:Nat),.pointer (some ⟨ib,0,none⟩),.pointer (some ⟨ob,0,none⟩)] W _
 have HIB:=keep hib
 clear hib
 by_cases he:i=i0
 ·subst he
  obtain rfl:s=none:=hR.2 (Nat.le_refl _)
  obtain ⟨ka,kc,hkv⟩:=aQ (show W.ownsRow w0.heap.size 3 1 kv _ _ from hok.get (bu w0 kv (ae T i)) (List.mem_cons_self ..))
  obtain ⟨kn,hkn⟩:=ex ((ae T i).length)
  rw [hkn] at hkv
  subst hkv
  obtain ⟨kv,hkv⟩:∃ kv:Value,kv=.slice ka kn kc:=⟨_,rfl⟩
  rw [← hkv] at hok hkr hks ⊢
  have HR:=keep (show tw i (i+1) (some kv) from ⟨fun h=>by (cases h),fun h=>by omega⟩)
  have H1:=Lib.hid (show Ok w0 (ah ob 50 [.slice none 0 0]::af ib 3 [.int .i64 (i:Nat)]::bu w0 kv (ae T i)::ps) W from hok.drop _ (by
   intro x hx
   simp only [ju,List.mem_cons,List.mem_append,List.not_mem_nil,or_false] at hx ⊢
   rcases hx with h | h | h | h <;> simp [h]))
  have HP:=keep (show ∀ x∈(af ib 3 [.int .i64 (i:Nat)]::bu w0 kv (ae T i)::ps),x.far (some ob) by
   intro x hx
   simp only [List.mem_cons] at hx
   rcases hx with rfl | rfl | hx
   ·show some ib≠some ob
    simp only [ne_eq,Option.some.injEq]
    exact HIB.out
   ·exact hkr
   exact hps x hx)
  clear hR hst hd hok hps hkr hks hi
  have F:=sE H1
  obtain ⟨P,hP⟩:∃ P:Ending→World→Prop,(fun (e:Ending) (W':World)=>e=.returned (.tuple #[])∧∃ s',tw i (i+1) s'∧(∀ rw,(∀ x∈ju w0 T ib ob i none,x.far rw)→(bu w0 kv (ae T i)).far rw→∀ x∈ju w0 T ib ob i s',x.far rw)∧Ok w0 (ju w0 T ib ob i s'++ps) W')=P:=⟨_,rfl⟩
  rw [hP]
  have HPP:=keep hP
  clear hP hkn
  subst hkv
  go_enter func74,ntmps74
  go_wp2_with fail
  have H2:=Lib.hid (H1.out.set_ (i:=0) (u:=.slice ka kn kc) hb HP.out)
  first
   | go_end0
   | refine bodyPost_ret (results_none rfl _ _ _) rfl ?_
  rw [← HPP.out]
  refine ⟨rfl,some (.slice ka kn kc),HR.out,fun rw h hk => ?_,H2.out⟩
  intro x hx
  simp only [ju,List.mem_cons,List.not_mem_nil,or_false] at hx h
  rcases hx with rfl | rfl | rfl
  ·exact h (ah ob 50 [.slice none 0 0]) (.inl rfl)
  ·exact h (af ib 3 [.int .i64 (i:Nat)]) (.inr rfl)
  exact hk
 have hne:((i:Int) == (i0:Int))=false:=by simp; omega
 have HR:=keep (show tw i0 (i+1) s by
  constructor
  ·intro h; have:=hR.1 h; omega
  intro h; exact hR.2 (by omega))
 have H1:=Lib.hid hok.tail
 clear hR hst hd hok hps hkr hks hi he
 have hF:ib<W.heap.size∧W.cell? ⟨ib,0,none⟩=some (.int .i64 (i0:Nat)):=by
  have h9:Blk W ib 3 #[.int .i64 (i0:Nat)]:=H1.out.get (af ib 3 [.int .i64 (i0:Nat)]) (by cases s <;> simp [ju])
  exact ⟨h9.lt,by rw [h9.cell]; rfl⟩
 obtain ⟨z1,c1⟩:=hF
 obtain ⟨P,hP⟩:∃ P:Ending→World→Prop,(fun (e:Ending) (W':World)=>e=.returned (.tuple #[])∧∃ s',tw i0 (i+1) s'∧(∀ rw,(∀ x∈ju w0 T ib ob i0 s,x.far rw)→(bu w0 kv (ae T i)).far rw→∀ x∈ju w0 T ib ob i0 s',x.far rw)∧Ok w0 (ju w0 T ib ob i0 s'++ps) W')=P:=⟨_,rfl⟩
 rw [hP]
 have HPP:=keep hP
 clear hP
 go_enter func74,ntmps74
 go_wp2_with fail
 first
  | go_end0
  | refine bodyPost_ret (results_none rfl _ _ _) rfl ?_
 rw [← HPP.out]
 exact ⟨rfl,s,HR.out,fun rw h _=>h,H1.out⟩
def rF (ks:List Nat) (w:World) (e:Ending) (w':World):Prop :=
 ∃ kv,e=.returned (.tuple #[kv,.int .i64 0])∧w'.ownsRow w.heap.size 3 1 kv ks.length (ks.map fun x=>.int .i64 (x:Nat))∧Below w.heap.size w w'
theorem ua (t:List NdA) (i:Nat) (ta:Option Addr) (tc:Nat) (w:World) (ht:ax w ta 11 (t.map bf)) (htl:t.length≤1000) (htx:∀ a∈t,a.vt.length≤4611686018427387904) (hc:aC t=0) (hi:i<t.length) :
  Calls prog 41 #[.slice ta t.length tc,.int .i64 (i:Nat)] w (rF (ae (t.map NdA.nd) i) w):=by
 have H1:=Lib.hid (((Ok.start w).alloc w.heap.size 3 [.int .i64 (i:Nat)] rfl).var (w.heap.size+1) 50 [.slice none 0 0] (by simp))
 have HC:=keep (lh w ((w.alloc (.cells #[.int .i64 (i:Nat)] 3)).alloc (.cells #[.slice none 0 0] 50)) t ta tc (ju w (t.map NdA.nd) w.heap.size (w.heap.size+1) i) (tw i) none (some (w.heap.size+1)) _ #[.pointer (some ⟨w.heap.size,0,none⟩),.pointer (some ⟨w.heap.size+1,0,none⟩)] ht htl htx H1.out ⟨fun _=>Nat.zero_le _,fun _=>rfl⟩ (fun b h=>by cases h; simp) (.inr fun s rw h=>fun e=>by
  subst e
  have h9:∃ cs,ah (w.heap.size+1) 50 cs∈ju w (t.map NdA.nd) w.heap.size (w.heap.size+1) i s:=by
   cases s with
   | none=>exact ⟨_,List.mem_cons_self ..⟩
   | some kv=>exact ⟨_,List.mem_cons_self ..⟩
  obtain ⟨cs,h9⟩:=h9
  exact h _ h9 rfl) (wK w _ t w.heap.size (w.heap.size+1) i (by omega) (by omega)) xh)
 rw [hc] at HC
 have h0:¬ ((i:Int)<0):=by omega
 have hge:¬ ((i:Int)≥(t.length:Nat)):=by omega
 clear hc ht htx
 obtain ⟨ks,hks⟩:=ex (ae (t.map NdA.nd) i)
 rw [hks]
 have HKS:=keep hks
 clear hks
 obtain ⟨tl,htl2⟩:=ex (t.length)
 rw [htl2] at HC htl hi hge ⊢
 have HTL:=keep htl2
 clear htl2
 go_enter func41,ntmps41
 go_wp2_with fail
 refine HC.out.mono ?_
 rintro e w1 ⟨rfl,n,s,a1,a2,a3,a4⟩
 have hn:=a3 rfl
 rw [HTL.out] at hn
 subst hn
 cases s with
 | none=>exact absurd (a1.1 rfl) (by omega)
 | some kv =>
  have H2:=Lib.hid a4
  clear a1 a2 a3 a4
  have F:=H2.out.sees
  simp only [ju,sees,ah,af,ac] at F
  obtain ⟨⟨⟨z0,f0⟩,c0,-⟩,⟨z1,c1,-⟩,-⟩:=F
  go_wp2_with fail
  refine bodyPost_ret (v:=.tuple #[kv,.int .i64 0]) (by simp [results,results41,go_sem]) rfl ⟨kv,rfl,?_,H2.out.bel⟩
  have h9:w1.ownsRow w.heap.size 3 1 kv _ _:=H2.out.get (bu w kv (ae (t.map NdA.nd) i)) (by simp [ju])
  rw [HKS.out] at h9
  exact h9
set_option maxRecDepth 100000
set_option maxHeartbeats 4000000
def hZ (n:Nd):Nat:=if n.kind=5 then 7 else if n.kind=4 then 5 else if n.kind=6 then (if n.op=5 then 6 else aJ n.op) else 8
theorem sr (n:Nd) (xs:List Tx) (h:n.kind≤7):(i6 n xs).2=hZ n:=by
 unfold i6 hZ
 have:n.kind=0∨n.kind=1∨n.kind=2∨n.kind=3∨n.kind=4∨n.kind=5∨n.kind=6∨n.kind=7:=by omega
 rcases this with g | g | g | g | g | g | g | g <;> simp [g]
 split <;> rfl
theorem pG (op:Int) (h1:1≤op) (h12:op≤12) (w:World) :
  Calls prog 75 #[.int .i64 op] w fun e w'=>e=.returned (.int .i64 ((if op=5 then 6 else aJ op:Nat):Int))∧Below w.heap.size w w':=by
 have h:op=1∨op=2∨op=3∨op=4∨op=5∨op=6∨op=7∨op=8∨op=9∨op=10∨op=11∨op=12:=by omega
 clear h1 h12
 obtain ⟨V,hV⟩:∃ V:Int,((if op=5 then 6 else aJ op:Nat):Int)=V:=⟨_,rfl⟩
 rw [hV]
 rcases h with rfl | rfl | rfl | rfl | rfl | rfl | rfl | rfl | rfl | rfl | rfl | rfl
 all_goals
  have HV:=keep hV
  clear hV
  go_enter func75,ntmps75
  go_wp2_with fail
  go_ret
  exact ⟨by rw [← HV.out]; rfl,Below.refl _ _⟩
theorem Ch (vk vn r1 r2 r3 r4 op fn nn:Int) (s:ByteArray) (w:World) :
  Calls prog 43 #[.agg #[.int .u8 4,.int .u8 vk,.int .i64 vn,.string s,.int .i64 r1,.int .i64 r2,.int .i64 r3,.int .i64 r4,.int .i64 op,.int .u8 fn,.int .i64 nn]] w fun e w'=>e=.returned (.int .i64 5)∧Below w.heap.size w w':=by
 have H1:=Lib.hid ((Ok.start w).alloc w.heap.size 27 [.int .u8 4,.int .u8 vk,.int .i64 vn,.string s,.int .i64 r1,.int .i64 r2,.int .i64 r3,.int .i64 r4,.int .i64 op,.int .u8 fn,.int .i64 nn] rfl)
 go_enter func43,ntmps43
 go_wp2_with fail
 generalize (w.alloc (.cells #[.int .u8 4,.int .u8 vk,.int .i64 vn,.string s,.int .i64 r1,.int .i64 r2,.int .i64 r3,.int .i64 r4,.int .i64 op,.int .u8 fn,.int .i64 nn] 27))=W2 at H1 ⊢
 go_ret
 exact ⟨rfl,H1.out.bel⟩
theorem Ci (vk vn r1 r2 r3 r4 op fn nn:Int) (s:ByteArray) (w:World) :
  Calls prog 43 #[.agg #[.int .u8 5,.int .u8 vk,.int .i64 vn,.string s,.int .i64 r1,.int .i64 r2,.int .i64 r3,.int .i64 r4,.int .i64 op,.int .u8 fn,.int .i64 nn]] w fun e w'=>e=.returned (.int .i64 7)∧Below w.heap.size w w':=by
 have H1:=Lib.hid ((Ok.start w).alloc w.heap.size 27 [.int .u8 5,.int .u8 vk,.int .i64 vn,.string s,.int .i64 r1,.int .i64 r2,.int .i64 r3,.int .i64 r4,.int .i64 op,.int .u8 fn,.int .i64 nn] rfl)
 go_enter func43,ntmps43
 go_wp2_with fail
 generalize (w.alloc (.cells #[.int .u8 5,.int .u8 vk,.int .i64 vn,.string s,.int .i64 r1,.int .i64 r2,.int .i64 r3,.int .i64 r4,.int .i64 op,.int .u8 fn,.int .i64 nn] 27))=W2 at H1 ⊢
 go_ret
 exact ⟨rfl,H1.out.bel⟩
theorem Cj (vk vn r1 r2 r3 r4 op fn nn:Int) (s:ByteArray) (h1:1≤op) (h12:op≤12) (w:World) :
  Calls prog 43 #[.agg #[.int .u8 6,.int .u8 vk,.int .i64 vn,.string s,.int .i64 r1,.int .i64 r2,.int .i64 r3,.int .i64 r4,.int .i64 op,.int .u8 fn,.int .i64 nn]] w fun e w'=>e=.returned (.int .i64 ((if op=5 then 6 else aJ op:Nat):Int))∧Below w.heap.size w w':=by
 obtain ⟨B,hB⟩:∃ B:Int,((if op=5 then 6 else aJ op:Nat):Int)=B:=⟨_,rfl⟩
 have HBI:=keep (fun w2:World=>show Calls prog 75 #[.int .i64 op] w2 fun e w'=>e=.returned (.int .i64 B)∧Below w2.heap.size w2 w' by rw [← hB]; exact pG op h1 h12 w2)
 rw [hB]
 clear hB
 have H1:=Lib.hid ((Ok.start w).alloc w.heap.size 27 [.int .u8 6,.int .u8 vk,.int .i64 vn,.string s,.int .i64 r1,.int .i64 r2,.int .i64 r3,.int .i64 r4,.int .i64 op,.int .u8 fn,.int .i64 nn] rfl)
 go_enter func43,ntmps43
 go_wp2_with fail
 generalize (w.alloc (.cells #[.int .u8 6,.int .u8 vk,.int .i64 vn,.string s,.int .i64 r1,.int .i64 r2,.int .i64 r3,.int .i64 r4,.int .i64 op,.int .u8 fn,.int .i64 nn] 27))=W2 at H1 ⊢
 refine cM (HBI.out _) H1 fun w3 H5=>?_
 clear H1
 have F6:=sE H5
 go_wp2_with fail
 go_ret
 exact ⟨rfl,H5.out.bel⟩
theorem Ck (k:Int) (vk vn r1 r2 r3 r4 op fn nn:Int) (s:ByteArray) (h4:(k == 4)=false) (h5:(k == 5)=false) (h6:(k == 6)=false) (w:World) :
  Calls prog 43 #[.agg #[.int .u8 k,.int .u8 vk,.int .i64 vn,.string s,.int .i64 r1,.int .i64 r2,.int .i64 r3,.int .i64 r4,.int .i64 op,.int .u8 fn,.int .i64 nn]] w fun e w'=>e=.returned (.int .i64 8)∧Below w.heap.size w w':=by
 have H1:=Lib.hid ((Ok.start w).alloc w.heap.size 27 [.int .u8 k,.int .u8 vk,.int .i64 vn,.string s,.int .i64 r1,.int .i64 r2,.int .i64 r3,.int .i64 r4,.int .i64 op,.int .u8 fn,.int .i64 nn] rfl)
 go_enter func43,ntmps43
 go_wp2_with fail
 generalize (w.alloc (.cells #[.int .u8 k,.int .u8 vk,.int .i64 vn,.string s,.int .i64 r1,.int .i64 r2,.int .i64 r3,.int .i64 r4,.int .i64 op,.int .u8 fn,.int .i64 nn] 27))=W2 at H1 ⊢
 go_ret
 exact ⟨rfl,H1.out.bel⟩
theorem fp (n:Nd) (hg:aL n) (w:World) :
  Calls prog 43 #[ndA n] w fun e w'=>e=.returned (.int .i64 (hZ n:Nat))∧Below w.heap.size w w':=by
 obtain ⟨k,vk,vn,vt,⟨r1,r2,r3,r4⟩,op,fn,nn⟩:=n
 by_cases k4:k=4
 ·subst k4; exact Ch vk vn r1 r2 r3 r4 op fn nn _ w
 by_cases k5:k=5
 ·subst k5; exact Ci vk vn r1 r2 r3 r4 op fn nn _ w
 by_cases k6:k=6
 ·subst k6
  have hop:1≤op∧op≤12:=by
   rcases hg with ⟨_,_,_,h,_⟩ | ⟨r,h,_⟩ | ⟨r,h,_⟩ | h | h | ⟨o,h,h1,h2⟩ | ⟨_,_,h,_⟩
   ·injection h with h; exact absurd h (by decide)
   ·injection h with h; exact absurd h (by decide)
   ·injection h with h; exact absurd h (by decide)
   ·injection h with h; exact absurd h (by decide)
   ·injection h with h; exact absurd h (by decide)
   ·injection h with _ _ _ _ _ h; subst h; exact ⟨h1,h2⟩
   injection h with h; exact absurd h (by decide)
  exact Cj vk vn r1 r2 r3 r4 op fn nn _ hop.1 hop.2 w
 have e:hZ ⟨k,vk,vn,vt,⟨r1,r2,r3,r4⟩,op,fn,nn⟩=8:=by
  unfold hZ
  rw [if_neg k5,if_neg k4,if_neg k6]
 rw [e]
 exact Ck k vk vn r1 r2 r3 r4 op fn nn _ (by simp; omega) (by simp; omega) (by simp; omega) w
-- names
theorem AS (w:World):(Instr.index 158 (.agg aw.toArray) (.int .u8 0)).run prog w=.ok (.string ⟨(aE 1).toArray⟩) w:=by kernel_rfl
theorem AT (w:World):(Instr.index 158 (.agg aw.toArray) (.int .u8 1)).run prog w=.ok (.string ⟨(aE 2).toArray⟩) w:=by kernel_rfl
theorem AU (w:World):(Instr.index 158 (.agg aw.toArray) (.int .u8 2)).run prog w=.ok (.string ⟨(aE 3).toArray⟩) w:=by kernel_rfl
theorem AV (w:World):(Instr.index 158 (.agg aw.toArray) (.int .u8 3)).run prog w=.ok (.string ⟨(aE 4).toArray⟩) w:=by kernel_rfl
theorem AW (w:World):(Instr.index 158 (.agg aw.toArray) (.int .u8 4)).run prog w=.ok (.string ⟨(aE 5).toArray⟩) w:=by kernel_rfl
theorem AX (w:World):(Instr.index 158 (.agg aw.toArray) (.int .u8 5)).run prog w=.ok (.string ⟨(aE 6).toArray⟩) w:=by kernel_rfl
theorem AY (w:World):(Instr.index 158 (.agg aw.toArray) (.int .u8 6)).run prog w=.ok (.string ⟨(aE 7).toArray⟩) w:=by kernel_rfl
theorem AZ (w:World):(Instr.index 158 (.agg aw.toArray) (.int .u8 7)).run prog w=.ok (.string ⟨(aE 8).toArray⟩) w:=by kernel_rfl
theorem A0 (w:World):(Instr.index 158 (.agg aw.toArray) (.int .u8 8)).run prog w=.ok (.string ⟨(aE 9).toArray⟩) w:=by kernel_rfl
theorem A4 (w:World):(Instr.index 158 (.agg aw.toArray) (.int .u8 9)).run prog w=.ok (.string ⟨(aE 10).toArray⟩) w:=by kernel_rfl
theorem xW (w:World):(Instr.index 158 (.agg aw.toArray) (.int .u8 10)).run prog w=.ok (.string ⟨(aE 11).toArray⟩) w:=by kernel_rfl
theorem xX (w:World):(Instr.index 158 (.agg aw.toArray) (.int .u8 11)).run prog w=.ok (.string ⟨(aE 12).toArray⟩) w:=by kernel_rfl
theorem xY (w:World):(Instr.index 158 (.agg aw.toArray) (.int .u8 12)).run prog w=.ok (.string ⟨(aE 13).toArray⟩) w:=by kernel_rfl
theorem xZ (w:World):(Instr.index 158 (.agg aw.toArray) (.int .u8 13)).run prog w=.ok (.string ⟨(aE 14).toArray⟩) w:=by kernel_rfl
theorem x7 (w:World):(Instr.index 158 (.agg aw.toArray) (.int .u8 14)).run prog w=.ok (.string ⟨(aE 15).toArray⟩) w:=by kernel_rfl
theorem x8 (w:World):(Instr.index 158 (.agg aw.toArray) (.int .u8 15)).run prog w=.ok (.string ⟨(aE 16).toArray⟩) w:=by kernel_rfl
theorem x9 (w:World):(Instr.index 158 (.agg aw.toArray) (.int .u8 16)).run prog w=.ok (.string ⟨(aE 17).toArray⟩) w:=by kernel_rfl
theorem ya (w:World):(Instr.index 158 (.agg aw.toArray) (.int .u8 17)).run prog w=.ok (.string ⟨(aE 18).toArray⟩) w:=by kernel_rfl
theorem yb (w:World):(Instr.index 158 (.agg aw.toArray) (.int .u8 18)).run prog w=.ok (.string ⟨(aE 19).toArray⟩) w:=by kernel_rfl
theorem yc (w:World):(Instr.index 158 (.agg aw.toArray) (.int .u8 19)).run prog w=.ok (.string ⟨(aE 20).toArray⟩) w:=by kernel_rfl
theorem yd (w:World):(Instr.index 158 (.agg aw.toArray) (.int .u8 20)).run prog w=.ok (.string ⟨(aE 21).toArray⟩) w:=by kernel_rfl
theorem ye (w:World):(Instr.index 158 (.agg aw.toArray) (.int .u8 21)).run prog w=.ok (.string ⟨(aE 22).toArray⟩) w:=by kernel_rfl
theorem yf (w:World):(Instr.index 158 (.agg aw.toArray) (.int .u8 22)).run prog w=.ok (.string ⟨(aE 23).toArray⟩) w:=by kernel_rfl
theorem yg (w:World):(Instr.index 158 (.agg aw.toArray) (.int .u8 23)).run prog w=.ok (.string ⟨(aE 24).toArray⟩) w:=by kernel_rfl
theorem yh (w:World):(Instr.index 158 (.agg aw.toArray) (.int .u8 24)).run prog w=.ok (.string ⟨(aE 25).toArray⟩) w:=by kernel_rfl
theorem yi (w:World):(Instr.index 158 (.agg aw.toArray) (.int .u8 25)).run prog w=.ok (.string ⟨(aE 26).toArray⟩) w:=by kernel_rfl
theorem yj (w:World):(Instr.index 158 (.agg aw.toArray) (.int .u8 26)).run prog w=.ok (.string ⟨(aE 27).toArray⟩) w:=by kernel_rfl
theorem yl (w:World):(Instr.index 158 (.agg aw.toArray) (.int .u8 27)).run prog w=.ok (.string ⟨(aE 28).toArray⟩) w:=by kernel_rfl
theorem ym (w:World):(Instr.index 158 (.agg aw.toArray) (.int .u8 28)).run prog w=.ok (.string ⟨(aE 29).toArray⟩) w:=by kernel_rfl
theorem yp (w:World):(Instr.index 158 (.agg aw.toArray) (.int .u8 29)).run prog w=.ok (.string ⟨(aE 30).toArray⟩) w:=by kernel_rfl
theorem yq (w:World):(Instr.index 158 (.agg aw.toArray) (.int .u8 30)).run prog w=.ok (.string ⟨(aE 31).toArray⟩) w:=by kernel_rfl
theorem yr (w:World):(Instr.index 158 (.agg aw.toArray) (.int .u8 31)).run prog w=.ok (.string ⟨(aE 32).toArray⟩) w:=by kernel_rfl
theorem ys (w:World):(Instr.index 158 (.agg aw.toArray) (.int .u8 32)).run prog w=.ok (.string ⟨(aE 33).toArray⟩) w:=by kernel_rfl
theorem yt (w:World):(Instr.index 158 (.agg aw.toArray) (.int .u8 33)).run prog w=.ok (.string ⟨(aE 34).toArray⟩) w:=by kernel_rfl
theorem yu (w:World):(Instr.index 158 (.agg aw.toArray) (.int .u8 34)).run prog w=.ok (.string ⟨(aE 35).toArray⟩) w:=by kernel_rfl
theorem yv (w:World):(Instr.index 158 (.agg aw.toArray) (.int .u8 35)).run prog w=.ok (.string ⟨(aE 36).toArray⟩) w:=by kernel_rfl
theorem yw (w:World):(Instr.index 158 (.agg aw.toArray) (.int .u8 36)).run prog w=.ok (.string ⟨(aE 37).toArray⟩) w:=by kernel_rfl
theorem yx (w:World):(Instr.index 158 (.agg aw.toArray) (.int .u8 37)).run prog w=.ok (.string ⟨(aE 38).toArray⟩) w:=by kernel_rfl
theorem yy (w:World):(Instr.index 158 (.agg aw.toArray) (.int .u8 38)).run prog w=.ok (.string ⟨(aE 39).toArray⟩) w:=by kernel_rfl
theorem yz (w:World):(Instr.index 158 (.agg aw.toArray) (.int .u8 39)).run prog w=.ok (.string ⟨(aE 40).toArray⟩) w:=by kernel_rfl
theorem yA (w:World):(Instr.index 158 (.agg aw.toArray) (.int .u8 40)).run prog w=.ok (.string ⟨(aE 41).toArray⟩) w:=by kernel_rfl
theorem yB (w:World):(Instr.index 158 (.agg aw.toArray) (.int .u8 41)).run prog w=.ok (.string ⟨(aE 42).toArray⟩) w:=by kernel_rfl
theorem yC (w:World):(Instr.index 158 (.agg aw.toArray) (.int .u8 42)).run prog w=.ok (.string ⟨(aE 43).toArray⟩) w:=by kernel_rfl
theorem yD (w:World):(Instr.index 158 (.agg aw.toArray) (.int .u8 43)).run prog w=.ok (.string ⟨(aE 44).toArray⟩) w:=by kernel_rfl
theorem yE (w:World):(Instr.index 158 (.agg aw.toArray) (.int .u8 44)).run prog w=.ok (.string ⟨(aE 45).toArray⟩) w:=by kernel_rfl
theorem yF (w:World):(Instr.index 158 (.agg aw.toArray) (.int .u8 45)).run prog w=.ok (.string ⟨(aE 46).toArray⟩) w:=by kernel_rfl
theorem yG (w:World):(Instr.index 158 (.agg aw.toArray) (.int .u8 46)).run prog w=.ok (.string ⟨(aE 47).toArray⟩) w:=by kernel_rfl
theorem yH (w:World):(Instr.index 158 (.agg aw.toArray) (.int .u8 47)).run prog w=.ok (.string ⟨(aE 48).toArray⟩) w:=by kernel_rfl
theorem yI (w:World):(Instr.index 158 (.agg aw.toArray) (.int .u8 48)).run prog w=.ok (.string ⟨(aE 49).toArray⟩) w:=by kernel_rfl
theorem yJ (w:World):(Instr.index 158 (.agg aw.toArray) (.int .u8 49)).run prog w=.ok (.string ⟨(aE 50).toArray⟩) w:=by kernel_rfl
theorem vy (fn:Nat) (h1:1≤fn) (h50:fn≤50) (w:World):(Instr.index 158 (.agg aw.toArray) (.int .u8 ((fn:Int) - 1))).run prog w=.ok (.string ⟨(aE fn).toArray⟩) w:=by
 obtain ⟨j,rfl⟩:∃ j,fn=j+1:=⟨fn - 1,by omega⟩
 rw [show (((j+1:Nat):Int) - 1)=(j:Int) by omega]
 match j,(show j<50 by omega) with
 | 0,_=>exact AS w
 | 1,_=>exact AT w
 | 2,_=>exact AU w
 | 3,_=>exact AV w
 | 4,_=>exact AW w
 | 5,_=>exact AX w
 | 6,_=>exact AY w
 | 7,_=>exact AZ w
 | 8,_=>exact A0 w
 | 9,_=>exact A4 w
 | 10,_=>exact xW w
 | 11,_=>exact xX w
 | 12,_=>exact xY w
 | 13,_=>exact xZ w
 | 14,_=>exact x7 w
 | 15,_=>exact x8 w
 | 16,_=>exact x9 w
 | 17,_=>exact ya w
 | 18,_=>exact yb w
 | 19,_=>exact yc w
 | 20,_=>exact yd w
 | 21,_=>exact ye w
 | 22,_=>exact yf w
 | 23,_=>exact yg w
 | 24,_=>exact yh w
 | 25,_=>exact yi w
 | 26,_=>exact yj w
 | 27,_=>exact yl w
 | 28,_=>exact ym w
 | 29,_=>exact yp w
 | 30,_=>exact yq w
 | 31,_=>exact yr w
 | 32,_=>exact ys w
 | 33,_=>exact yt w
 | 34,_=>exact yu w
 | 35,_=>exact yv w
 | 36,_=>exact yw w
 | 37,_=>exact yx w
 | 38,_=>exact yy w
 | 39,_=>exact yz w
 | 40,_=>exact yA w
 | 41,_=>exact yB w
 | 42,_=>exact yC w
 | 43,_=>exact yD w
 | 44,_=>exact yE w
 | 45,_=>exact yF w
 | 46,_=>exact yG w
 | 47,_=>exact yH w
 | 48,_=>exact yI w
 | 49,_=>exact yJ w
 | n+50,h=>omega
theorem ub (fn:Nat) (h1:1≤fn) (h50:fn≤50) (w:World) :
  Calls prog 78 #[.int .u8 (fn:Nat)] w fun e w'=>e=.returned (.tuple #[.string ⟨(aE fn).toArray⟩,.int .i64 0])∧Below w.heap.size w w':=by
 have HN:=vy fn h1 h50
 have hw8:IntKind.u8.wrap ((fn:Int) - 1)=(fn:Int) - 1:=Go.IntWalk.u8_in _ (by omega)
 obtain ⟨NV,hNV⟩:=ex (aw.toArray)
 rw [hNV] at HN
 have HTN:=keep (fun w2:World=>show Calls prog 123 #[] w2 fun e w'=>e=.returned (.agg NV)∧Below w2.heap.size w2 w' by rw [← hNV]; exact mm w2)
 clear hNV
 obtain ⟨X,hX⟩:=ex (aE fn)
 rw [hX] at HN ⊢
 clear hX
 go_enter func78,ntmps78
 go_wp2_with fail
 refine (ml fn _ h1 h50).mono ?_
 rintro e w1 ⟨rfl,hw⟩
 obtain rfl:w=w1:=hw.symm
 go_wp2_with fail
 refine (HTN.out _).mono ?_
 rintro e w2 ⟨rfl,hb⟩
 have HB:=Lib.hid hb
 clear hb
 go_wp2_with fail
 exact bodyPost_ret (v:=.tuple #[.string ⟨X.toArray⟩,.int .i64 0]) (by simp [results,results78,go_sem]) rfl ⟨rfl,HB.out⟩
