/- tree.check, Check, Kids and Depth at any nodes. show.strength, tree.Name, show.Literal and show.own. -/
import Derived.Test.YtdplcdhpnmcdjaaGreatDoorETwk
import Derived.Test.YtdplcdhpnmcdjaaGreatDoorETg
import Derived.Test.YtdplcdhpnmcdjaaGreatDoorEShw
import Derived.Test.YtdplcdhpnmcdjaaGreatDoorETreB
import Derived.Test.YtdplcdhpnmcdjaaGreatDoorEParP
import Derived.Test.YtdplcdhpnmcdjaaGreatDoorELexI
import Derived.Test.YtdplcdhpnmcdjaaGreatDoorELexO
namespace Go.Proofs.YtdplcdhpnmcdjaaGreatDoor
set_option maxRecDepth 100000
set_option maxHeartbeats 4000000
open Go.RowKit Go.Proofs.Tryz
theorem l3 {t:List NdA} (h:256<t.length):aI t=5:=by unfold aI; rw [if_pos h]
theorem l4:aI []=4:=by simp [aI]
theorem nl {t:List NdA} (h:¬ 256<t.length) (h0:t≠[]) (hw:ci t≠0):aI t=ci t:=by unfold aI; rw [if_neg h,if_neg h0,if_pos hw]
theorem l0 {t:List NdA} {a:NdA} {k:Nat} (h:¬ 256<t.length) (h0:t≠[]) (hw:ci t=0) (hn:t[t.length - 1]?=some a) (hk:a.kind=k):aI t=if k=3 then 4 else 0:=by
 unfold aI
 rw [if_neg h,if_neg h0,if_neg (by rw [hw]; decide),List.getLast?_eq_getElem?,hn,← hk]
 simp
theorem iY (w0 w:World) (t:List NdA) (ta:Option Addr) (tc:Nat) {σ:Type} (S:σ→List aS) (R:Nat→σ→Prop) (s0:σ) (row:Option Nat) (vf:Nat) (lb:Array Value)
  (ht:bi w0 ta 11 (t.map dv)) (htl:t.length≤1000) (htx:∀ a∈t,a.vt.length≤4611686018427387904) (hok:Ok w0 (S s0) w) (hR0:R 0 s0) (hout:∀ b,row=some b→b<w.heap.size)
  (hof:row=none∨∀ s rw,(∀ x∈S s,x.far rw)→rw≠row) (hvis:oL w0 (t.map NdA.nd) t S R row vf lb) (heg:∀ args w,(callFunc vf args).run prog w=.ok (.enter vf args) w) :
  Calls prog 47 #[.slice ta t.length tc,.bool false,.func (.func vf) #[] lb] w (vE w0 t S R (aI t)):=by
 have HT:=keep ht
 have HSTART:=keep (show ∃ i s,R i s∧i≤t.length∧Ok w0 (S s) w from ⟨0,s0,hR0,Nat.zero_le _,hok⟩)
 have hwalk:=oB w0 w t ta tc S R s0 row vf lb ht htl htx hok hR0 hout hof hvis heg
 clear ht htx hok hR0 hout hof hvis heg
 obtain ⟨tl,htl2⟩:=ex (t.length)
 rw [htl2] at htl hwalk ⊢
 have HTL:=keep htl2
 clear htl2
 have HWK:=keep hwalk
 clear hwalk
 obtain ⟨V,hV⟩:=ex (aI t)
 rw [hV]
 have HV:=keep hV
 clear hV
 by_cases h256:(tl:Int)>256
 ·have HE:=keep (show V=5 from HV.out.symm.trans (l3 (by rw [HTL.out]; omega)))
  go_enter func47,ntmps47
  go_wp2_with fail
  go_ret
  obtain ⟨i,s,a1,a2,a3⟩:=HSTART.out
  exact ⟨by rw [HE.out]; rfl,i,s,a1,a2,fun h=>absurd h (by rw [HE.out]; decide),a3⟩
 by_cases h0:tl=0
 ·subst h0
  have HE:=keep (show V=4 from HV.out.symm.trans (by rw [List.length_eq_zero_iff.1 HTL.out]; exact l4))
  clear h256
  go_enter func47,ntmps47
  go_wp2_with fail
  go_ret
  obtain ⟨i,s,a1,a2,a3⟩:=HSTART.out
  exact ⟨by rw [HE.out]; rfl,i,s,a1,a2,fun h=>absurd h (by rw [HE.out]; decide),a3⟩
 clear HSTART
 have h0i:((tl:Int) == 0)=false:=by simpa using h0
 have HN0:=keep (show t≠[] by intro e; have h9:=HTL.out; rw [e] at h9; simp at h9; omega)
 have HN256:=keep (show ¬ 256<t.length by rw [HTL.out]; omega)
 obtain ⟨E,hE⟩:=ex (ci t)
 have hwk:=HWK.out
 rw [hE] at hwk
 have HWE:=keep hE
 have HWK2:=keep hwk
 clear hwk hE HWK
 by_cases hE0:E=0
 ·subst hE0
  obtain ⟨n,hn⟩:∃ n,t[t.length - 1]?=some n:=⟨_,List.getElem?_eq_getElem (by rw [HTL.out]; omega)⟩
  obtain ⟨nk,hnk⟩:=ex (n.kind)
  have HE:=keep (show V=if nk=3 then 4 else 0 from HV.out.symm.trans (l0 HN256.out HN0.out HWE.out hn hnk))
  obtain ⟨tb,tz,hta,htb,htcell⟩:=HT.out (by intro e; have h9:=congrArg List.length e; rw [List.length_map] at h9; simp only [List.length_nil] at h9; have:=HTL.out; omega)
  subst hta
  rw [HTL.out] at hn
  have hc:=htcell (tl - 1) (dv n) (by rw [List.getElem?_map,hn]; rfl) 0 (.int .u8 (n.kind:Nat)) rfl
  rw [hnk,Nat.add_zero] at hc
  have HC:=keep hc
  have HTB:=keep htb
  have hi1:IntKind.i64.wrap ((tl:Int) - 1)=(tl:Int) - 1:=Go.IntWalk.i64_in _ (by omega)
  have hi2:((tl:Int) - 1).toNat=tl - 1:=by omega
  have hi3:(tl:Int) - 1<(tl:Int):=by omega
  have hi4:(0:Int)≤(tl:Int) - 1:=by omega
  obtain ⟨kn3,hk3⟩:∃ b:Bool,((nk:Int) == 3)=b:=⟨_,rfl⟩
  have HK3:=keep hk3
  clear hn hnk htcell hc htb
  go_enter func47,ntmps47
  go_wp2_with fail
  refine HWK2.out.mono ?_
  rintro e w1 ⟨rfl,i,s,a1,a2,a3,a4⟩
  have hc1:=(a4.bel.cell HTB.out).trans HC.out
  have htb1:tb<w1.heap.size:=Nat.lt_of_lt_of_le HTB.out a4.bel.size
  have HB:=Lib.hid a4
  have HA1:=keep a1
  have HA2:=keep a2
  have HA3:=keep (a3 rfl)
  clear a1 a2 a3 a4
  go_wp2_with fail
  all_goals go_ret
  all_goals
   have h3:=HK3.out
  ·rename_i hk
   rw [hk,beq_iff_eq] at h3
   refine ⟨?_,i,s,HA1.out,HA2.out,fun _=>HA3.out,HB.out⟩
   rw [HE.out,if_pos (by omega)]; rfl
  rename_i hk
  rw [hk,beq_eq_false_iff_ne] at h3
  refine ⟨?_,i,s,HA1.out,HA2.out,fun _=>HA3.out,HB.out⟩
  rw [HE.out,if_neg (by omega)]; rfl
 have hE1:(E != 0)=true:=by simpa using hE0
 have HE:=keep (show V=E from HV.out.symm.trans ((nl HN256.out HN0.out (by rw [HWE.out]; exact hE0)).trans HWE.out))
 have HEZ:=keep hE0
 clear hE0
 go_enter func47,ntmps47
 go_wp2_with fail
 refine HWK2.out.mono ?_
 rintro e w1 ⟨rfl,i,s,a1,a2,a3,a4⟩
 have HB:=Lib.hid a4
 have HA1:=keep a1
 have HA2:=keep a2
 clear a1 a2 a3 a4
 go_wp2_with fail
 go_ret
 exact ⟨by rw [HE.out]; rfl,i,s,HA1.out,HA2.out,fun h=>absurd (HE.out.symm.trans h) HEZ.out,HB.out⟩
theorem nr:∀ args w,(callFunc 48 args).run prog w=.ok (.enter 48 args) w:=fun _ _=>by kernel_rfl
theorem m4 (w0:World) (T:List Nd) (t:List NdA):oL w0 T t (fun _:Unit=>[]) (fun _ _=>True) none 48 #[]:=by
 intro i s W kv d st ps _ _ _ _ hok _ _ _
 refine (lQ _ _ _ _).mono ?_
 rintro e w1 ⟨rfl,rfl⟩
 exact ⟨rfl,(),trivial,by simp,hok.tail⟩
theorem mX (t:List NdA) (ta:Option Addr) (tc:Nat) (w:World) (ht:bi w ta 11 (t.map dv)) (htl:t.length≤1000) (htx:∀ a∈t,a.vt.length≤4611686018427387904) :
  Calls prog 47 #[.slice ta t.length tc,.bool false,.func (.func 48) #[] #[]] w fun e w'=>e=.returned (.int .i64 (aI t))∧Below w.heap.size w w':=by
 refine (iY w w t ta tc (fun _:Unit=>[]) (fun _ _=>True) () none _ #[] ht htl htx (Ok.start w) trivial (fun b h=>by cases h) (.inl rfl) (m4 _ _ _) nr).mono ?_
 rintro e w1 ⟨rfl,i,s,-,-,-,h⟩
 exact ⟨rfl,h.bel⟩
theorem bW (t:List NdA) (ta:Option Addr) (tc:Nat) (w:World) (ht:bi w ta 11 (t.map dv)) (htl:t.length≤1000) (htx:∀ a∈t,a.vt.length≤4611686018427387904) :
  Calls prog 24 #[.slice ta t.length tc] w fun e w'=>e=.returned (.int .i64 (aI t))∧Below w.heap.size w w':=by
 have HC:=keep (mX t ta tc w ht htl htx)
 clear ht htl htx
 obtain ⟨tl,htl2⟩:=ex (t.length)
 rw [htl2] at HC ⊢
 clear htl2
 obtain ⟨V,hV⟩:=ex (aI t)
 rw [hV] at HC ⊢
 clear hV
 go_enter func24,ntmps24
 go_wp2_with fail
 refine HC.out.mono ?_
 rintro e w1 ⟨rfl,hb⟩
 have HB:=Lib.hid hb
 clear hb
 go_wp2_with fail
 go_ret
 exact ⟨rfl,HB.out⟩
-- Depth
theorem tB:∀ args w,(callFunc 87 args).run prog w=.ok (.enter 87 args) w:=fun _ _=>by kernel_rfl
def gQ (w0:World) (T:List Nd) (ib ob i0:Nat) (s:Option Value):List aS:=match s with
 | none=>[af ob 57 [.slice none 0 0],ac ib 3 [.int .i64 (i0:Nat)]]
 | some kv=>[af ob 57 [kv],ac ib 3 [.int .i64 (i0:Nat)],bc w0 kv (ai T i0)]
def qb (i0 n:Nat) (s:Option Value):Prop:=s=none↔n≤i0
theorem sq (w0:World) (T:List Nd) (t:List NdA) (ib ob i0:Nat) (hib:ib≠ob) (hb:w0.heap.size≤ob):oL w0 T t (gQ w0 T ib ob i0) (qb i0) (some ob) 87 #[.pointer (some ⟨ib,0,none⟩),.pointer (some ⟨ob,0,none⟩)]:=by
 intro i s W kv d st ps hi hR hst hd hok hps hkr hks
 show Calls prog 87 #[.int .i64 (i:Nat),kv,.int .i64 (d:Nat),.pointer (some ⟨ib,0,none⟩),.pointer (some ⟨ob,0,none⟩)] W _
 have HIB:=keep hib
 clear hib
 by_cases he:i=i0
 ·subst he
  obtain rfl:s=none:=hR.2 (Nat.le_refl _)
  obtain ⟨ka,kc,hkv⟩:=bp (show W.ownsRow w0.heap.size 3 1 kv _ _ from hok.get (bc w0 kv (ai T i)) (List.mem_cons_self ..))
  obtain ⟨kn,hkn⟩:=ex ((ai T i).length)
  rw [hkn] at hkv
  subst hkv
  obtain ⟨kv,hkv⟩:∃ kv:Value,kv=.slice ka kn kc:=⟨_,rfl⟩
  rw [← hkv] at hok hkr hks ⊢
  have HR:=keep (show qb i (i+1) (some kv) from ⟨fun h=>by (cases h),fun h=>by omega⟩)
  have H1:=Lib.hid (show Ok w0 (af ob 57 [.slice none 0 0]::ac ib 3 [.int .i64 (i:Nat)]::bc w0 kv (ai T i)::ps) W from hok.drop _ (by
   intro x hx
   simp only [gQ,List.mem_cons,List.mem_append,List.not_mem_nil,or_false] at hx ⊢
   rcases hx with h | h | h | h <;> simp [h]))
  have HP:=keep (show ∀ x∈(ac ib 3 [.int .i64 (i:Nat)]::bc w0 kv (ai T i)::ps),x.far (some ob) by
   intro x hx
   simp only [List.mem_cons] at hx
   rcases hx with rfl | rfl | hx
   ·show some ib≠some ob
    simp only [ne_eq,Option.some.injEq]
    exact HIB.out
   ·exact hkr
   exact hps x hx)
  clear hR hst hd hok hps hkr hks hi
  have F:=sE H1
  obtain ⟨P,hP⟩:∃ P:Ending→World→Prop,(fun (e:Ending) (W':World)=>e=.returned (.tuple #[])∧∃ s',qb i (i+1) s'∧(∀ rw,(∀ x∈gQ w0 T ib ob i none,x.far rw)→(bc w0 kv (ai T i)).far rw→∀ x∈gQ w0 T ib ob i s',x.far rw)∧Ok w0 (gQ w0 T ib ob i s'++ps) W')=P:=⟨_,rfl⟩
  rw [hP]
  have HPP:=keep hP
  clear hP hkn
  subst hkv
  go_enter func87,ntmps87
  go_wp2_with fail
  have H2:=Lib.hid (H1.out.set_ (i:=0) (u:=.slice ka kn kc) hb HP.out)
  first
   | go_end0
   | refine bodyPost_ret (results_none rfl _ _ _) rfl ?_
  rw [← HPP.out]
  refine ⟨rfl,some (.slice ka kn kc),HR.out,fun rw h hk => ?_,H2.out⟩
  intro x hx
  simp only [gQ,List.mem_cons,List.not_mem_nil,or_false] at hx h
  rcases hx with rfl | rfl | rfl
  ·exact h (af ob 57 [.slice none 0 0]) (.inl rfl)
  ·exact h (ac ib 3 [.int .i64 (i:Nat)]) (.inr rfl)
  exact hk
 have hne:((i:Int) == (i0:Int))=false:=by simp; omega
 have HR:=keep (show qb i0 (i+1) s by
  constructor
  ·intro h; have:=hR.1 h; omega
  intro h; exact hR.2 (by omega))
 have H1:=Lib.hid hok.tail
 clear hR hst hd hok hps hkr hks hi he
 have hF:ib<W.heap.size∧W.cell? ⟨ib,0,none⟩=some (.int .i64 (i0:Nat)):=by
  have h9:Blk W ib 3 #[.int .i64 (i0:Nat)]:=H1.out.get (ac ib 3 [.int .i64 (i0:Nat)]) (by cases s <;> simp [gQ])
  exact ⟨h9.lt,by rw [h9.cell]; rfl⟩
 obtain ⟨z1,c1⟩:=hF
 obtain ⟨P,hP⟩:∃ P:Ending→World→Prop,(fun (e:Ending) (W':World)=>e=.returned (.tuple #[])∧∃ s',qb i0 (i+1) s'∧(∀ rw,(∀ x∈gQ w0 T ib ob i0 s,x.far rw)→(bc w0 kv (ai T i)).far rw→∀ x∈gQ w0 T ib ob i0 s',x.far rw)∧Ok w0 (gQ w0 T ib ob i0 s'++ps) W')=P:=⟨_,rfl⟩
 rw [hP]
 have HPP:=keep hP
 clear hP
 go_enter func87,ntmps87
 go_wp2_with fail
 first
  | go_end0
  | refine bodyPost_ret (results_none rfl _ _ _) rfl ?_
 rw [← HPP.out]
 exact ⟨rfl,s,HR.out,fun rw h _=>h,H1.out⟩
def oK (ks:List Nat) (w:World) (e:Ending) (w':World):Prop :=
 ∃ kv,e=.returned (.tuple #[kv,.int .i64 0])∧w'.ownsRow w.heap.size 3 1 kv ks.length (ks.map fun x=>.int .i64 (x:Nat))∧Below w.heap.size w w'
theorem qD (t:List NdA) (i:Nat) (ta:Option Addr) (tc:Nat) (w:World) (ht:bi w ta 11 (t.map dv)) (htl:t.length≤1000) (htx:∀ a∈t,a.vt.length≤4611686018427387904) (hc:aI t=0) (hi:i<t.length) :
  Calls prog 49 #[.slice ta t.length tc,.int .i64 (i:Nat)] w (oK (ai (t.map NdA.nd) i) w):=by
 have H1:=Lib.hid (((Ok.start w).alloc w.heap.size 3 [.int .i64 (i:Nat)] rfl).var (w.heap.size+1) 57 [.slice none 0 0] (by simp))
 have HC:=keep (iY w ((w.alloc (.cells #[.int .i64 (i:Nat)] 3)).alloc (.cells #[.slice none 0 0] 57)) t ta tc (gQ w (t.map NdA.nd) w.heap.size (w.heap.size+1) i) (qb i) none (some (w.heap.size+1)) _ #[.pointer (some ⟨w.heap.size,0,none⟩),.pointer (some ⟨w.heap.size+1,0,none⟩)] ht htl htx H1.out ⟨fun _=>Nat.zero_le _,fun _=>rfl⟩ (fun b h=>by cases h; simp) (.inr fun s rw h=>fun e=>by
  subst e
  have h9:∃ cs,af (w.heap.size+1) 57 cs∈gQ w (t.map NdA.nd) w.heap.size (w.heap.size+1) i s:=by
   cases s with
   | none=>exact ⟨_,List.mem_cons_self ..⟩
   | some kv=>exact ⟨_,List.mem_cons_self ..⟩
  obtain ⟨cs,h9⟩:=h9
  exact h _ h9 rfl) (sq w _ t w.heap.size (w.heap.size+1) i (by omega) (by omega)) tB)
 rw [hc] at HC
 have h0:¬ ((i:Int)<0):=by omega
 have hge:¬ ((i:Int)≥(t.length:Nat)):=by omega
 clear hc ht htx
 obtain ⟨ks,hks⟩:=ex (ai (t.map NdA.nd) i)
 rw [hks]
 have HKS:=keep hks
 clear hks
 obtain ⟨tl,htl2⟩:=ex (t.length)
 rw [htl2] at HC htl hi hge ⊢
 have HTL:=keep htl2
 clear htl2
 go_enter func49,ntmps49
 go_wp2_with fail
 refine HC.out.mono ?_
 rintro e w1 ⟨rfl,n,s,a1,a2,a3,a4⟩
 have hn:=a3 rfl
 rw [HTL.out] at hn
 subst hn
 cases s with
 | none=>exact absurd (a1.1 rfl) (by omega)
 | some kv =>
  have H2:=Lib.hid a4
  clear a1 a2 a3 a4
  have F:=H2.out.sees
  simp only [gQ,sees,af,ac,aa] at F
  obtain ⟨⟨⟨z0,f0⟩,c0,-⟩,⟨z1,c1,-⟩,-⟩:=F
  go_wp2_with fail
  refine bodyPost_ret (v:=.tuple #[kv,.int .i64 0]) (by simp [results,results49,go_sem]) rfl ⟨kv,rfl,?_,H2.out.bel⟩
  have h9:w1.ownsRow w.heap.size 3 1 kv _ _:=H2.out.get (bc w kv (ai (t.map NdA.nd) i)) (by simp [gQ])
  rw [HKS.out] at h9
  exact h9
set_option maxRecDepth 100000
set_option maxHeartbeats 4000000
def kp (n:Nd):Nat:=if n.kind=5 then 7 else if n.kind=4 then 5 else if n.kind=6 then (if n.op=5 then 6 else aT n.op) else 8
theorem vj (n:Nd) (xs:List Tx) (h:n.kind≤7):(gn n xs).2=kp n:=by
 unfold gn kp
 have:n.kind=0∨n.kind=1∨n.kind=2∨n.kind=3∨n.kind=4∨n.kind=5∨n.kind=6∨n.kind=7:=by omega
 rcases this with g | g | g | g | g | g | g | g <;> simp [g]
 split <;> rfl
theorem mT (op:Int) (h1:1≤op) (h12:op≤12) (w:World) :
  Calls prog 88 #[.int .i64 op] w fun e w'=>e=.returned (.int .i64 ((if op=5 then 6 else aT op:Nat):Int))∧Below w.heap.size w w':=by
 have h:op=1∨op=2∨op=3∨op=4∨op=5∨op=6∨op=7∨op=8∨op=9∨op=10∨op=11∨op=12:=by omega
 clear h1 h12
 obtain ⟨V,hV⟩:∃ V:Int,((if op=5 then 6 else aT op:Nat):Int)=V:=⟨_,rfl⟩
 rw [hV]
 rcases h with rfl | rfl | rfl | rfl | rfl | rfl | rfl | rfl | rfl | rfl | rfl | rfl
 all_goals
  have HV:=keep hV
  clear hV
  go_enter func88,ntmps88
  go_wp2_with fail
  go_ret
  exact ⟨by rw [← HV.out]; rfl,Below.refl _ _⟩
theorem ym (vk vn r1 r2 r3 r4 op fn nn:Int) (s:ByteArray) (w:World) :
  Calls prog 51 #[.agg #[.int .u8 4,.int .u8 vk,.int .i64 vn,.string s,.int .i64 r1,.int .i64 r2,.int .i64 r3,.int .i64 r4,.int .i64 op,.int .u8 fn,.int .i64 nn]] w fun e w'=>e=.returned (.int .i64 5)∧Below w.heap.size w w':=by
 have H1:=Lib.hid ((Ok.start w).alloc w.heap.size 39 [.int .u8 4,.int .u8 vk,.int .i64 vn,.string s,.int .i64 r1,.int .i64 r2,.int .i64 r3,.int .i64 r4,.int .i64 op,.int .u8 fn,.int .i64 nn] rfl)
 go_enter func51,ntmps51
 go_wp2_with fail
 generalize (w.alloc (.cells #[.int .u8 4,.int .u8 vk,.int .i64 vn,.string s,.int .i64 r1,.int .i64 r2,.int .i64 r3,.int .i64 r4,.int .i64 op,.int .u8 fn,.int .i64 nn] 39))=W2 at H1 ⊢
 go_ret
 exact ⟨rfl,H1.out.bel⟩
theorem yn (vk vn r1 r2 r3 r4 op fn nn:Int) (s:ByteArray) (w:World) :
  Calls prog 51 #[.agg #[.int .u8 5,.int .u8 vk,.int .i64 vn,.string s,.int .i64 r1,.int .i64 r2,.int .i64 r3,.int .i64 r4,.int .i64 op,.int .u8 fn,.int .i64 nn]] w fun e w'=>e=.returned (.int .i64 7)∧Below w.heap.size w w':=by
 have H1:=Lib.hid ((Ok.start w).alloc w.heap.size 39 [.int .u8 5,.int .u8 vk,.int .i64 vn,.string s,.int .i64 r1,.int .i64 r2,.int .i64 r3,.int .i64 r4,.int .i64 op,.int .u8 fn,.int .i64 nn] rfl)
 go_enter func51,ntmps51
 go_wp2_with fail
 generalize (w.alloc (.cells #[.int .u8 5,.int .u8 vk,.int .i64 vn,.string s,.int .i64 r1,.int .i64 r2,.int .i64 r3,.int .i64 r4,.int .i64 op,.int .u8 fn,.int .i64 nn] 39))=W2 at H1 ⊢
 go_ret
 exact ⟨rfl,H1.out.bel⟩
theorem yo (vk vn r1 r2 r3 r4 op fn nn:Int) (s:ByteArray) (h1:1≤op) (h12:op≤12) (w:World) :
  Calls prog 51 #[.agg #[.int .u8 6,.int .u8 vk,.int .i64 vn,.string s,.int .i64 r1,.int .i64 r2,.int .i64 r3,.int .i64 r4,.int .i64 op,.int .u8 fn,.int .i64 nn]] w fun e w'=>e=.returned (.int .i64 ((if op=5 then 6 else aT op:Nat):Int))∧Below w.heap.size w w':=by
 obtain ⟨B,hB⟩:∃ B:Int,((if op=5 then 6 else aT op:Nat):Int)=B:=⟨_,rfl⟩
 have HBI:=keep (fun w2:World=>show Calls prog 88 #[.int .i64 op] w2 fun e w'=>e=.returned (.int .i64 B)∧Below w2.heap.size w2 w' by rw [← hB]; exact mT op h1 h12 w2)
 rw [hB]
 clear hB
 have H1:=Lib.hid ((Ok.start w).alloc w.heap.size 39 [.int .u8 6,.int .u8 vk,.int .i64 vn,.string s,.int .i64 r1,.int .i64 r2,.int .i64 r3,.int .i64 r4,.int .i64 op,.int .u8 fn,.int .i64 nn] rfl)
 go_enter func51,ntmps51
 go_wp2_with fail
 generalize (w.alloc (.cells #[.int .u8 6,.int .u8 vk,.int .i64 vn,.string s,.int .i64 r1,.int .i64 r2,.int .i64 r3,.int .i64 r4,.int .i64 op,.int .u8 fn,.int .i64 nn] 39))=W2 at H1 ⊢
 refine cM (HBI.out _) H1 fun w3 H5=>?_
 clear H1
 have F6:=sE H5
 go_wp2_with fail
 go_ret
 exact ⟨rfl,H5.out.bel⟩
theorem yp (k:Int) (vk vn r1 r2 r3 r4 op fn nn:Int) (s:ByteArray) (h4:(k == 4)=false) (h5:(k == 5)=false) (h6:(k == 6)=false) (w:World) :
  Calls prog 51 #[.agg #[.int .u8 k,.int .u8 vk,.int .i64 vn,.string s,.int .i64 r1,.int .i64 r2,.int .i64 r3,.int .i64 r4,.int .i64 op,.int .u8 fn,.int .i64 nn]] w fun e w'=>e=.returned (.int .i64 8)∧Below w.heap.size w w':=by
 have H1:=Lib.hid ((Ok.start w).alloc w.heap.size 39 [.int .u8 k,.int .u8 vk,.int .i64 vn,.string s,.int .i64 r1,.int .i64 r2,.int .i64 r3,.int .i64 r4,.int .i64 op,.int .u8 fn,.int .i64 nn] rfl)
 go_enter func51,ntmps51
 go_wp2_with fail
 generalize (w.alloc (.cells #[.int .u8 k,.int .u8 vk,.int .i64 vn,.string s,.int .i64 r1,.int .i64 r2,.int .i64 r3,.int .i64 r4,.int .i64 op,.int .u8 fn,.int .i64 nn] 39))=W2 at H1 ⊢
 go_ret
 exact ⟨rfl,H1.out.bel⟩
theorem ea (n:Nd) (hg:aL n) (w:World) :
  Calls prog 51 #[ndA n] w fun e w'=>e=.returned (.int .i64 (kp n:Nat))∧Below w.heap.size w w':=by
 obtain ⟨k,vk,vn,vt,⟨r1,r2,r3,r4⟩,op,fn,nn⟩:=n
 by_cases k4:k=4
 ·subst k4; exact ym vk vn r1 r2 r3 r4 op fn nn _ w
 by_cases k5:k=5
 ·subst k5; exact yn vk vn r1 r2 r3 r4 op fn nn _ w
 by_cases k6:k=6
 ·subst k6
  have hop:1≤op∧op≤12:=by
   rcases hg with ⟨_,_,_,h,_⟩ | ⟨r,h,_⟩ | ⟨r,h,_⟩ | h | h | ⟨o,h,h1,h2⟩ | ⟨_,_,h,_⟩
   ·injection h with h; exact absurd h (by decide)
   ·injection h with h; exact absurd h (by decide)
   ·injection h with h; exact absurd h (by decide)
   ·injection h with h; exact absurd h (by decide)
   ·injection h with h; exact absurd h (by decide)
   ·injection h with _ _ _ _ _ h; subst h; exact ⟨h1,h2⟩
   injection h with h; exact absurd h (by decide)
  exact yo vk vn r1 r2 r3 r4 op fn nn _ hop.1 hop.2 w
 have e:kp ⟨k,vk,vn,vt,⟨r1,r2,r3,r4⟩,op,fn,nn⟩=8:=by
  unfold kp
  rw [if_neg k5,if_neg k4,if_neg k6]
 rw [e]
 exact yp k vk vn r1 r2 r3 r4 op fn nn _ (by simp; omega) (by simp; omega) (by simp; omega) w
-- names
theorem wG (w:World):(Instr.index 173 (.agg am.toArray) (.int .u8 0)).run prog w=.ok (.string ⟨(az 1).toArray⟩) w:=by kernel_rfl
theorem wH (w:World):(Instr.index 173 (.agg am.toArray) (.int .u8 1)).run prog w=.ok (.string ⟨(az 2).toArray⟩) w:=by kernel_rfl
theorem wI (w:World):(Instr.index 173 (.agg am.toArray) (.int .u8 2)).run prog w=.ok (.string ⟨(az 3).toArray⟩) w:=by kernel_rfl
theorem wJ (w:World):(Instr.index 173 (.agg am.toArray) (.int .u8 3)).run prog w=.ok (.string ⟨(az 4).toArray⟩) w:=by kernel_rfl
theorem wK (w:World):(Instr.index 173 (.agg am.toArray) (.int .u8 4)).run prog w=.ok (.string ⟨(az 5).toArray⟩) w:=by kernel_rfl
theorem wL (w:World):(Instr.index 173 (.agg am.toArray) (.int .u8 5)).run prog w=.ok (.string ⟨(az 6).toArray⟩) w:=by kernel_rfl
theorem wM (w:World):(Instr.index 173 (.agg am.toArray) (.int .u8 6)).run prog w=.ok (.string ⟨(az 7).toArray⟩) w:=by kernel_rfl
theorem wN (w:World):(Instr.index 173 (.agg am.toArray) (.int .u8 7)).run prog w=.ok (.string ⟨(az 8).toArray⟩) w:=by kernel_rfl
theorem wO (w:World):(Instr.index 173 (.agg am.toArray) (.int .u8 8)).run prog w=.ok (.string ⟨(az 9).toArray⟩) w:=by kernel_rfl
theorem wP (w:World):(Instr.index 173 (.agg am.toArray) (.int .u8 9)).run prog w=.ok (.string ⟨(az 10).toArray⟩) w:=by kernel_rfl
theorem ud (w:World):(Instr.index 173 (.agg am.toArray) (.int .u8 10)).run prog w=.ok (.string ⟨(az 11).toArray⟩) w:=by kernel_rfl
theorem ue (w:World):(Instr.index 173 (.agg am.toArray) (.int .u8 11)).run prog w=.ok (.string ⟨(az 12).toArray⟩) w:=by kernel_rfl
theorem uf (w:World):(Instr.index 173 (.agg am.toArray) (.int .u8 12)).run prog w=.ok (.string ⟨(az 13).toArray⟩) w:=by kernel_rfl
theorem ug (w:World):(Instr.index 173 (.agg am.toArray) (.int .u8 13)).run prog w=.ok (.string ⟨(az 14).toArray⟩) w:=by kernel_rfl
theorem uh (w:World):(Instr.index 173 (.agg am.toArray) (.int .u8 14)).run prog w=.ok (.string ⟨(az 15).toArray⟩) w:=by kernel_rfl
theorem ui (w:World):(Instr.index 173 (.agg am.toArray) (.int .u8 15)).run prog w=.ok (.string ⟨(az 16).toArray⟩) w:=by kernel_rfl
theorem uj (w:World):(Instr.index 173 (.agg am.toArray) (.int .u8 16)).run prog w=.ok (.string ⟨(az 17).toArray⟩) w:=by kernel_rfl
theorem uk (w:World):(Instr.index 173 (.agg am.toArray) (.int .u8 17)).run prog w=.ok (.string ⟨(az 18).toArray⟩) w:=by kernel_rfl
theorem ul (w:World):(Instr.index 173 (.agg am.toArray) (.int .u8 18)).run prog w=.ok (.string ⟨(az 19).toArray⟩) w:=by kernel_rfl
theorem um (w:World):(Instr.index 173 (.agg am.toArray) (.int .u8 19)).run prog w=.ok (.string ⟨(az 20).toArray⟩) w:=by kernel_rfl
theorem un (w:World):(Instr.index 173 (.agg am.toArray) (.int .u8 20)).run prog w=.ok (.string ⟨(az 21).toArray⟩) w:=by kernel_rfl
theorem uo (w:World):(Instr.index 173 (.agg am.toArray) (.int .u8 21)).run prog w=.ok (.string ⟨(az 22).toArray⟩) w:=by kernel_rfl
theorem uq (w:World):(Instr.index 173 (.agg am.toArray) (.int .u8 22)).run prog w=.ok (.string ⟨(az 23).toArray⟩) w:=by kernel_rfl
theorem ut (w:World):(Instr.index 173 (.agg am.toArray) (.int .u8 23)).run prog w=.ok (.string ⟨(az 24).toArray⟩) w:=by kernel_rfl
theorem uu (w:World):(Instr.index 173 (.agg am.toArray) (.int .u8 24)).run prog w=.ok (.string ⟨(az 25).toArray⟩) w:=by kernel_rfl
theorem uv (w:World):(Instr.index 173 (.agg am.toArray) (.int .u8 25)).run prog w=.ok (.string ⟨(az 26).toArray⟩) w:=by kernel_rfl
theorem uw (w:World):(Instr.index 173 (.agg am.toArray) (.int .u8 26)).run prog w=.ok (.string ⟨(az 27).toArray⟩) w:=by kernel_rfl
theorem ux (w:World):(Instr.index 173 (.agg am.toArray) (.int .u8 27)).run prog w=.ok (.string ⟨(az 28).toArray⟩) w:=by kernel_rfl
theorem uy (w:World):(Instr.index 173 (.agg am.toArray) (.int .u8 28)).run prog w=.ok (.string ⟨(az 29).toArray⟩) w:=by kernel_rfl
theorem uz (w:World):(Instr.index 173 (.agg am.toArray) (.int .u8 29)).run prog w=.ok (.string ⟨(az 30).toArray⟩) w:=by kernel_rfl
theorem uA (w:World):(Instr.index 173 (.agg am.toArray) (.int .u8 30)).run prog w=.ok (.string ⟨(az 31).toArray⟩) w:=by kernel_rfl
theorem uB (w:World):(Instr.index 173 (.agg am.toArray) (.int .u8 31)).run prog w=.ok (.string ⟨(az 32).toArray⟩) w:=by kernel_rfl
theorem uC (w:World):(Instr.index 173 (.agg am.toArray) (.int .u8 32)).run prog w=.ok (.string ⟨(az 33).toArray⟩) w:=by kernel_rfl
theorem uD (w:World):(Instr.index 173 (.agg am.toArray) (.int .u8 33)).run prog w=.ok (.string ⟨(az 34).toArray⟩) w:=by kernel_rfl
theorem uE (w:World):(Instr.index 173 (.agg am.toArray) (.int .u8 34)).run prog w=.ok (.string ⟨(az 35).toArray⟩) w:=by kernel_rfl
theorem uF (w:World):(Instr.index 173 (.agg am.toArray) (.int .u8 35)).run prog w=.ok (.string ⟨(az 36).toArray⟩) w:=by kernel_rfl
theorem uG (w:World):(Instr.index 173 (.agg am.toArray) (.int .u8 36)).run prog w=.ok (.string ⟨(az 37).toArray⟩) w:=by kernel_rfl
theorem uH (w:World):(Instr.index 173 (.agg am.toArray) (.int .u8 37)).run prog w=.ok (.string ⟨(az 38).toArray⟩) w:=by kernel_rfl
theorem uI (w:World):(Instr.index 173 (.agg am.toArray) (.int .u8 38)).run prog w=.ok (.string ⟨(az 39).toArray⟩) w:=by kernel_rfl
theorem uJ (w:World):(Instr.index 173 (.agg am.toArray) (.int .u8 39)).run prog w=.ok (.string ⟨(az 40).toArray⟩) w:=by kernel_rfl
theorem uK (w:World):(Instr.index 173 (.agg am.toArray) (.int .u8 40)).run prog w=.ok (.string ⟨(az 41).toArray⟩) w:=by kernel_rfl
theorem uL (w:World):(Instr.index 173 (.agg am.toArray) (.int .u8 41)).run prog w=.ok (.string ⟨(az 42).toArray⟩) w:=by kernel_rfl
theorem uM (w:World):(Instr.index 173 (.agg am.toArray) (.int .u8 42)).run prog w=.ok (.string ⟨(az 43).toArray⟩) w:=by kernel_rfl
theorem uN (w:World):(Instr.index 173 (.agg am.toArray) (.int .u8 43)).run prog w=.ok (.string ⟨(az 44).toArray⟩) w:=by kernel_rfl
theorem uO (w:World):(Instr.index 173 (.agg am.toArray) (.int .u8 44)).run prog w=.ok (.string ⟨(az 45).toArray⟩) w:=by kernel_rfl
theorem uP (w:World):(Instr.index 173 (.agg am.toArray) (.int .u8 45)).run prog w=.ok (.string ⟨(az 46).toArray⟩) w:=by kernel_rfl
theorem uQ (w:World):(Instr.index 173 (.agg am.toArray) (.int .u8 46)).run prog w=.ok (.string ⟨(az 47).toArray⟩) w:=by kernel_rfl
theorem uR (w:World):(Instr.index 173 (.agg am.toArray) (.int .u8 47)).run prog w=.ok (.string ⟨(az 48).toArray⟩) w:=by kernel_rfl
theorem uS (w:World):(Instr.index 173 (.agg am.toArray) (.int .u8 48)).run prog w=.ok (.string ⟨(az 49).toArray⟩) w:=by kernel_rfl
theorem uT (w:World):(Instr.index 173 (.agg am.toArray) (.int .u8 49)).run prog w=.ok (.string ⟨(az 50).toArray⟩) w:=by kernel_rfl
theorem rI (fn:Nat) (h1:1≤fn) (h50:fn≤50) (w:World):(Instr.index 173 (.agg am.toArray) (.int .u8 ((fn:Int) - 1))).run prog w=.ok (.string ⟨(az fn).toArray⟩) w:=by
 obtain ⟨j,rfl⟩:∃ j,fn=j+1:=⟨fn - 1,by omega⟩
 rw [show (((j+1:Nat):Int) - 1)=(j:Int) by omega]
 match j,(show j<50 by omega) with
 | 0,_=>exact wG w
 | 1,_=>exact wH w
 | 2,_=>exact wI w
 | 3,_=>exact wJ w
 | 4,_=>exact wK w
 | 5,_=>exact wL w
 | 6,_=>exact wM w
 | 7,_=>exact wN w
 | 8,_=>exact wO w
 | 9,_=>exact wP w
 | 10,_=>exact ud w
 | 11,_=>exact ue w
 | 12,_=>exact uf w
 | 13,_=>exact ug w
 | 14,_=>exact uh w
 | 15,_=>exact ui w
 | 16,_=>exact uj w
 | 17,_=>exact uk w
 | 18,_=>exact ul w
 | 19,_=>exact um w
 | 20,_=>exact un w
 | 21,_=>exact uo w
 | 22,_=>exact uq w
 | 23,_=>exact ut w
 | 24,_=>exact uu w
 | 25,_=>exact uv w
 | 26,_=>exact uw w
 | 27,_=>exact ux w
 | 28,_=>exact uy w
 | 29,_=>exact uz w
 | 30,_=>exact uA w
 | 31,_=>exact uB w
 | 32,_=>exact uC w
 | 33,_=>exact uD w
 | 34,_=>exact uE w
 | 35,_=>exact uF w
 | 36,_=>exact uG w
 | 37,_=>exact uH w
 | 38,_=>exact uI w
 | 39,_=>exact uJ w
 | 40,_=>exact uK w
 | 41,_=>exact uL w
 | 42,_=>exact uM w
 | 43,_=>exact uN w
 | 44,_=>exact uO w
 | 45,_=>exact uP w
 | 46,_=>exact uQ w
 | 47,_=>exact uR w
 | 48,_=>exact uS w
 | 49,_=>exact uT w
 | n+50,h=>omega
theorem qE (fn:Nat) (h1:1≤fn) (h50:fn≤50) (w:World) :
  Calls prog 91 #[.int .u8 (fn:Nat)] w fun e w'=>e=.returned (.tuple #[.string ⟨(az fn).toArray⟩,.int .i64 0])∧Below w.heap.size w w':=by
 have HN:=rI fn h1 h50
 have hw8:IntKind.u8.wrap ((fn:Int) - 1)=(fn:Int) - 1:=Go.IntWalk.u8_in _ (by omega)
 obtain ⟨NV,hNV⟩:=ex (am.toArray)
 rw [hNV] at HN
 have HTN:=keep (fun w2:World=>show Calls prog 144 #[] w2 fun e w'=>e=.returned (.agg NV)∧Below w2.heap.size w2 w' by rw [← hNV]; exact j5 w2)
 clear hNV
 obtain ⟨X,hX⟩:=ex (az fn)
 rw [hX] at HN ⊢
 clear hX
 go_enter func91,ntmps91
 go_wp2_with fail
 refine (j4 fn _ h1 h50).mono ?_
 rintro e w1 ⟨rfl,hw⟩
 obtain rfl:w=w1:=hw.symm
 go_wp2_with fail
 refine (HTN.out _).mono ?_
 rintro e w2 ⟨rfl,hb⟩
 have HB:=Lib.hid hb
 clear hb
 go_wp2_with fail
 exact bodyPost_ret (v:=.tuple #[.string ⟨X.toArray⟩,.int .i64 0]) (by simp [results,results91,go_sem]) rfl ⟨rfl,HB.out⟩
