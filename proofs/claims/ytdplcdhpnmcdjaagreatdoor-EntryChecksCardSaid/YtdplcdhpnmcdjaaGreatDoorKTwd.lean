/- The reference's parser by rf: primary whole, all methods by induction on the fuel. tree.check, Check, Kids and Depth at any nodes. -/
import Derived.Test.YtdplcdhpnmcdjaaGreatDoorKRqE
import Derived.Test.YtdplcdhpnmcdjaaGreatDoorKRqG
import Derived.Test.YtdplcdhpnmcdjaaGreatDoorKTwk
import Derived.Test.YtdplcdhpnmcdjaaGreatDoorKTg
namespace Go.Proofs.YtdplcdhpnmcdjaaGreatDoor
set_option maxRecDepth 100000
set_option maxHeartbeats 4000000
open Go.RowKit Go.Proofs.Tryz
theorem AO (f:Nat) (IH:∀ g,g≤f→Rc g) (tk:Nat) (tn:Int) (tt:List UInt8) (t1 t2 t3 t4:Int) (ta:Nat) (w1:World) (ps:List aS) (pb:Nat) (S:ByteArray) (all:List Tk) (i:Nat) (ns:List Nd) (a c:Int) (n:Nat) (w:World) (hn:all.length≤1000) (hs:S.size≤4611686018427387904) (_hi:i≤all.length) (hl:ns.length≤i) (hf:12 * (all.length - i)+2≤f+1) (h:RSt w1 ps pb S all i ns a c w) (ht:hdS S.size (all.drop i)=⟨tk,tn,tt,⟨t1,t2,t3,t4⟩,ta⟩) (hk:tk=7) :
  Calls prog 240 #[.pointer (some ⟨pb,0,none⟩)] w (RQ w1 ps pb S all (rf S.size all (f+1) .pr ⟨i,ns,a,c,n⟩)):=by
 have hT0:=ht
 obtain ⟨i0,hi_,hz0,hz1,hz2⟩:=info_parts p8
 have hi9:=hi_
 clear hi_
 rw [AQ ht]
 simp only []
 rw [if_neg (by omega),if_neg (by omega),if_neg (by omega),if_pos hk]
 have hlt:i<all.length:=zL (e:=S.size) (q:=⟨i,ns,a,c,n⟩) (by show (hdS S.size (all.drop i)).kind≠0; rw [hT0]; simp only; omega)
 have hb2:=zF (e:=S.size) (all:=all) (f:=f) (m:=(.call ⟨tk,tn,tt,⟨t1,t2,t3,t4⟩,ta⟩)) (q:=⟨i+1,ns,a,c,n⟩) hn (hlt) (by simp only [Mr.sl]; omega)
 have hc2:=fun qs W (h9:RSt w1 qs pb S all (i+1) (ns) (a) (c) W)=>IH (f) (Nat.le_refl _) w1 qs pb S all ⟨i+1,ns,a,c,n⟩ (.call ⟨tk,tn,tt,⟨t1,t2,t3,t4⟩,ta⟩) W hn hs (hlt) (by simp only [Mr.sl]; omega) (by simp only [e6]; omega) h9
 obtain ⟨⟨i2,ns2,a2,c2,n2⟩,hX2⟩:∃ q,rf S.size all f (.call ⟨tk,tn,tt,⟨t1,t2,t3,t4⟩,ta⟩) ⟨i+1,ns,a,c,n⟩=q:=⟨_,rfl⟩
 rw [hX2] at hb2 hc2
 simp only [Mr.sl] at hb2
 obtain ⟨hb2a,hb2b,hb2c,hb2d⟩:=hb2
 have HC2:=keep hc2
 clear hc2
 rw [hX2]
 clear hX2
 have HH:=keep (zu w1 ps pb S all i ns a c w hn (by omega) hs h)
 rw [ht] at HH
 have H:=Lib.hid h
 have HK:=keep hk
 clear hk h ht hT0 IH
 go_enter func240,ntmps240
 go_wp2_with fail
 refine (HH.out).mono ?_
 rintro e wa1 ⟨rfl,hb2⟩
 have H3:=Lib.hid (H.out.below hb2)
 clear hb2 H HH
 simp only [tkA]
 go_upto_region 1 with fail
 have H4:Hid (RSt w1 (ac wa1.heap.size 97 [.int .u8 tk,.int .i64 tn,.string ⟨tt.toArray⟩,.int .i64 t1,.int .i64 t2,.int .i64 t3,.int .i64 t4,.int .i64 ta]::ps) pb S all i ns a c (wa1.alloc (.cells #[.int .u8 tk,.int .i64 tn,.string ⟨tt.toArray⟩,.int .i64 t1,.int .i64 t2,.int .i64 t3,.int .i64 t4,.int .i64 ta] 97))):=Lib.hid (H3.out.alloc 97 [.int .u8 tk,.int .i64 tn,.string ⟨tt.toArray⟩,.int .i64 t1,.int .i64 t2,.int .i64 t3,.int .i64 t4,.int .i64 ta])
 clear H3
 generalize (wa1.alloc (.cells #[.int .u8 tk,.int .i64 tn,.string ⟨tt.toArray⟩,.int .i64 t1,.int .i64 t2,.int .i64 t3,.int .i64 t4,.int .i64 ta] 97))=W5 at H4 ⊢
 have hk:=HK.out
 have F6:=H4.out.sees
 simp only [sees,ac,aa,Nat.reduceAdd] at F6
 obtain ⟨zp,⟨z0,c00,c01,c02,c03,c04,c05,c06,c07,-⟩,-⟩:=F6
 obtain ⟨la,lc,tv,-,⟨x0,x1⟩,p0,p1,p2,p3,p4,p5⟩:=H4.out.cells
 go_upto_region 18 with fail
 have HI:=Lib.hid H4.out.inc
 clear H4 x0 x1 p0 p1 p2 p3 p4 p5 c00 c01 c02 c03 c04 c05 c06 c07 zp z0
 generalize (W5.setCell ⟨pb,2,none⟩ (.int .i64 ((i:Int)+1)))=W6 at HI ⊢
 have F6:=HI.out.sees
 simp only [sees,ac,aa,Nat.reduceAdd] at F6
 obtain ⟨zp,⟨z0,c00,c01,c02,c03,c04,c05,c06,c07,-⟩,-⟩:=F6
 go_wp2_with fail
 have HC7:=HC2.out
 rw [hk] at HC7
 refine (HC7 _ _ HI.out).mono ?_
 clear HC7
 rintro e w6 ⟨rfl,hst⟩
 have hst:RSt w1 _ pb S all i2 ns2 a2 c2 w6:=hst
 have HST:=Lib.hid hst
 clear hst HC2 HI c00 c01 c02 c03 c04 c05 c06 c07 zp z0
 go_wp2_with fail
 first
  | go_end0
  | go_ret
  | refine bodyPost_ret (results_none rfl _ _ _) rfl ?_
 exact ⟨rfl,HST.out.tail⟩
theorem CQ (f:Nat) (IH:∀ g,g≤f→Rc g) (w1:World) (ps:List aS) (pb:Nat) (S:ByteArray) (all:List Tk) (i:Nat) (ns:List Nd) (a c:Int) (n:Nat) (w:World) (hn:all.length≤1000) (hs:S.size≤4611686018427387904) (hi:i≤all.length) (hl:ns.length≤i) (hf:12 * (all.length - i)+2≤f+1) (h:RSt w1 ps pb S all i ns a c w) :
  Calls prog 240 #[.pointer (some ⟨pb,0,none⟩)] w (RQ w1 ps pb S all (rf S.size all (f+1) .pr ⟨i,ns,a,c,n⟩)):=by
 obtain ⟨⟨tk,tn,tt,⟨t1,t2,t3,t4⟩,ta⟩,ht⟩:∃ t,hdS S.size (all.drop i)=t:=⟨_,rfl⟩
 by_cases k1:1≤tk∧tk≤4
 ·exact AT f IH tk tn tt t1 t2 t3 t4 ta w1 ps pb S all i ns a c n w hn hs hi hl hf h ht k1
 by_cases k5:tk=5
 ·exact AV f IH tk tn tt t1 t2 t3 t4 ta w1 ps pb S all i ns a c n w hn hs hi hl hf h ht k5
 by_cases k9:tk=9
 ·exact AU f IH tk tn tt t1 t2 t3 t4 ta w1 ps pb S all i ns a c n w hn hs hi hl hf h ht k9
 by_cases k7:tk=7
 ·exact AO f IH tk tn tt t1 t2 t3 t4 ta w1 ps pb S all i ns a c n w hn hs hi hl hf h ht k7
 exact AN f IH tk tn tt t1 t2 t3 t4 ta w1 ps pb S all i ns a c n w hn hs hi hl hf h ht (by omega)
theorem EA:∀ N f:Nat,f≤N→Rc f:=by
 intro N
 induction N with
 | zero =>
  intro f hf w1 ps pb S all q m w hn hs hi hl hfu h
  cases m with
  | lv k=>intro h1 h2; simp only [e6] at hfu; omega
  | sg=>simp only [e6] at hfu; omega
  | pc=>simp only [e6] at hfu; omega
  | pr=>simp only [e6] at hfu; omega
  | arg fn i=>simp only [e6] at hfu; omega
  | call t=>simp only [e6] at hfu; omega
  | ops k=>trivial
  | pct=>trivial
  | args fn i=>trivial
 | succ N ih =>
  intro f hf
  cases f with
  | zero=>exact ih 0 (Nat.zero_le _)
  | succ f =>
   have IH:∀ g,g≤f→Rc g:=fun g hg=>ih g (by omega)
   intro w1 ps pb S all q m w hn hs hi hl hfu h
   obtain ⟨i,ns,a,c,n⟩:=q
   cases m with
   | lv k=>exact fun h1 h2=>Ed f IH k h1 h2 w1 ps pb S all i ns a c n w hn hs hi hl hfu h
   | sg=>exact Ez f IH w1 ps pb S all i ns a c n w hn hs hi hl hfu h
   | pc=>exact CP f IH w1 ps pb S all i ns a c n w hn hs hi hl hfu h
   | pr=>exact CQ f IH w1 ps pb S all i ns a c n w hn hs hi hl hfu h
   | arg fn j=>exact fun h1 h2 h3=>Ck f IH fn j h1 h2 h3 w1 ps pb S all i ns a c n w hn hs hi hl hfu h
   | call t =>
    obtain ⟨tk,tn,tt,⟨t1,t2,t3,t4⟩,ta⟩:=t
    exact Ey f IH tk tn tt t1 t2 t3 t4 ta w1 ps pb S all i ns a c n w hn hs hi hl hfu h
   | ops k=>trivial
   | pct=>trivial
   | args fn i=>trivial
set_option maxRecDepth 100000
set_option maxHeartbeats 4000000
theorem l3 {t:List NdA} (h:256<t.length):aI t=5:=by unfold aI; rw [if_pos h]
theorem l4:aI []=4:=by simp [aI]
theorem nl {t:List NdA} (h:¬ 256<t.length) (h0:t≠[]) (hw:ci t≠0):aI t=ci t:=by unfold aI; rw [if_neg h,if_neg h0,if_pos hw]
theorem l0 {t:List NdA} {a:NdA} {k:Nat} (h:¬ 256<t.length) (h0:t≠[]) (hw:ci t=0) (hn:t[t.length - 1]?=some a) (hk:a.kind=k):aI t=if k=3 then 4 else 0:=by
 unfold aI
 rw [if_neg h,if_neg h0,if_neg (by rw [hw]; decide),List.getLast?_eq_getElem?,hn,← hk]
 simp
theorem iY (w0 w:World) (t:List NdA) (ta:Option Addr) (tc:Nat) {σ:Type} (S:σ→List aS) (R:Nat→σ→Prop) (s0:σ) (row:Option Nat) (vf:Nat) (lb:Array Value)
  (ht:bi w0 ta 11 (t.map dv)) (htl:t.length≤1000) (htx:∀ a∈t,AF a) (hok:Ok w0 (S s0) w) (hR0:R 0 s0) (hout:∀ b,row=some b→b<w.heap.size)
  (hof:row=none∨∀ s rw,(∀ x∈S s,x.far rw)→rw≠row) (hvis:oL w0 (t.map NdA.nd) t S R row vf lb) (heg:∀ args w,(callFunc vf args).run prog w=.ok (.enter vf args) w) :
  Calls prog 47 #[.slice ta t.length tc,.bool false,.func (.func vf) #[] lb] w (vE w0 t S R (aI t)):=by
 have HT:=keep ht
 have HSTART:=keep (show ∃ i s,R i s∧i≤t.length∧Ok w0 (S s) w from ⟨0,s0,hR0,Nat.zero_le _,hok⟩)
 have hwalk:=oB w0 w t ta tc S R s0 row vf lb ht htl htx hok hR0 hout hof hvis heg
 clear ht htx hok hR0 hout hof hvis heg
 obtain ⟨tl,htl2⟩:=ex (t.length)
 rw [htl2] at htl hwalk ⊢
 have HTL:=keep htl2
 clear htl2
 have HWK:=keep hwalk
 clear hwalk
 obtain ⟨V,hV⟩:=ex (aI t)
 rw [hV]
 have HV:=keep hV
 clear hV
 by_cases h256:(tl:Int)>256
 ·have HE:=keep (show V=5 from HV.out.symm.trans (l3 (by rw [HTL.out]; omega)))
  go_enter func47,ntmps47
  go_wp2_with fail
  go_ret
  obtain ⟨i,s,a1,a2,a3⟩:=HSTART.out
  exact ⟨by rw [HE.out]; rfl,i,s,a1,a2,fun h=>absurd h (by rw [HE.out]; decide),a3⟩
 by_cases h0:tl=0
 ·subst h0
  have HE:=keep (show V=4 from HV.out.symm.trans (by rw [List.length_eq_zero_iff.1 HTL.out]; exact l4))
  clear h256
  go_enter func47,ntmps47
  go_wp2_with fail
  go_ret
  obtain ⟨i,s,a1,a2,a3⟩:=HSTART.out
  exact ⟨by rw [HE.out]; rfl,i,s,a1,a2,fun h=>absurd h (by rw [HE.out]; decide),a3⟩
 clear HSTART
 have h0i:((tl:Int) == 0)=false:=by simpa using h0
 have HN0:=keep (show t≠[] by intro e; have h9:=HTL.out; rw [e] at h9; simp at h9; omega)
 have HN256:=keep (show ¬ 256<t.length by rw [HTL.out]; omega)
 obtain ⟨E,hE⟩:=ex (ci t)
 have hwk:=HWK.out
 rw [hE] at hwk
 have HWE:=keep hE
 have HWK2:=keep hwk
 clear hwk hE HWK
 by_cases hE0:E=0
 ·subst hE0
  obtain ⟨n,hn⟩:∃ n,t[t.length - 1]?=some n:=⟨_,List.getElem?_eq_getElem (by rw [HTL.out]; omega)⟩
  obtain ⟨nk,hnk⟩:=ex (n.kind)
  have HE:=keep (show V=if nk=3 then 4 else 0 from HV.out.symm.trans (l0 HN256.out HN0.out HWE.out hn hnk))
  obtain ⟨tb,tz,hta,htb,htcell⟩:=HT.out (by intro e; have h9:=congrArg List.length e; rw [List.length_map] at h9; simp only [List.length_nil] at h9; have:=HTL.out; omega)
  subst hta
  rw [HTL.out] at hn
  have hc:=htcell (tl - 1) (dv n) (by rw [List.getElem?_map,hn]; rfl) 0 (.int .u8 (n.kind:Nat)) rfl
  rw [hnk,Nat.add_zero] at hc
  have HC:=keep hc
  have HTB:=keep htb
  have hi1:IntKind.i64.wrap ((tl:Int) - 1)=(tl:Int) - 1:=Go.IntWalk.i64_in _ (by omega)
  have hi2:((tl:Int) - 1).toNat=tl - 1:=by omega
  have hi3:(tl:Int) - 1<(tl:Int):=by omega
  have hi4:(0:Int)≤(tl:Int) - 1:=by omega
  obtain ⟨kn3,hk3⟩:∃ b:Bool,((nk:Int) == 3)=b:=⟨_,rfl⟩
  have HK3:=keep hk3
  clear hn hnk htcell hc htb
  go_enter func47,ntmps47
  go_wp2_with fail
  refine HWK2.out.mono ?_
  rintro e w1 ⟨rfl,i,s,a1,a2,a3,a4⟩
  have hc1:=(a4.bel.cell HTB.out).trans HC.out
  have htb1:tb<w1.heap.size:=Nat.lt_of_lt_of_le HTB.out a4.bel.size
  have HB:=Lib.hid a4
  have HA1:=keep a1
  have HA2:=keep a2
  have HA3:=keep (a3 rfl)
  clear a1 a2 a3 a4
  go_wp2_with fail
  all_goals go_ret
  all_goals
   have h3:=HK3.out
  ·rename_i hk
   rw [hk,beq_iff_eq] at h3
   refine ⟨?_,i,s,HA1.out,HA2.out,fun _=>HA3.out,HB.out⟩
   rw [HE.out,if_pos (by omega)]; rfl
  rename_i hk
  rw [hk,beq_eq_false_iff_ne] at h3
  refine ⟨?_,i,s,HA1.out,HA2.out,fun _=>HA3.out,HB.out⟩
  rw [HE.out,if_neg (by omega)]; rfl
 have hE1:(E != 0)=true:=by simpa using hE0
 have HE:=keep (show V=E from HV.out.symm.trans ((nl HN256.out HN0.out (by rw [HWE.out]; exact hE0)).trans HWE.out))
 have HEZ:=keep hE0
 clear hE0
 go_enter func47,ntmps47
 go_wp2_with fail
 refine HWK2.out.mono ?_
 rintro e w1 ⟨rfl,i,s,a1,a2,a3,a4⟩
 have HB:=Lib.hid a4
 have HA1:=keep a1
 have HA2:=keep a2
 clear a1 a2 a3 a4
 go_wp2_with fail
 go_ret
 exact ⟨by rw [HE.out]; rfl,i,s,HA1.out,HA2.out,fun h=>absurd (HE.out.symm.trans h) HEZ.out,HB.out⟩
theorem nr:∀ args w,(callFunc 48 args).run prog w=.ok (.enter 48 args) w:=fun _ _=>by kernel_rfl
theorem m4 (w0:World) (T:List Nd) (t:List NdA):oL w0 T t (fun _:Unit=>[]) (fun _ _=>True) none 48 #[]:=by
 intro i s W kv d st ps _ _ _ _ hok _ _ _
 refine (lQ _ _ _ _).mono ?_
 rintro e w1 ⟨rfl,rfl⟩
 exact ⟨rfl,(),trivial,by simp,hok.tail⟩
theorem mX (t:List NdA) (ta:Option Addr) (tc:Nat) (w:World) (ht:bi w ta 11 (t.map dv)) (htl:t.length≤1000) (htx:∀ a∈t,AF a) :
  Calls prog 47 #[.slice ta t.length tc,.bool false,.func (.func 48) #[] #[]] w fun e w'=>e=.returned (.int .i64 (aI t))∧Below w.heap.size w w':=by
 refine (iY w w t ta tc (fun _:Unit=>[]) (fun _ _=>True) () none _ #[] ht htl htx (Ok.start w) trivial (fun b h=>by cases h) (.inl rfl) (m4 _ _ _) nr).mono ?_
 rintro e w1 ⟨rfl,i,s,-,-,-,h⟩
 exact ⟨rfl,h.bel⟩
theorem bW (t:List NdA) (ta:Option Addr) (tc:Nat) (w:World) (ht:bi w ta 11 (t.map dv)) (htl:t.length≤1000) (htx:∀ a∈t,AF a) :
  Calls prog 24 #[.slice ta t.length tc] w fun e w'=>e=.returned (.int .i64 (aI t))∧Below w.heap.size w w':=by
 have HC:=keep (mX t ta tc w ht htl htx)
 clear ht htl htx
 obtain ⟨tl,htl2⟩:=ex (t.length)
 rw [htl2] at HC ⊢
 clear htl2
 obtain ⟨V,hV⟩:=ex (aI t)
 rw [hV] at HC ⊢
 clear hV
 go_enter func24,ntmps24
 go_wp2_with fail
 refine HC.out.mono ?_
 rintro e w1 ⟨rfl,hb⟩
 have HB:=Lib.hid hb
 clear hb
 go_wp2_with fail
 go_ret
 exact ⟨rfl,HB.out⟩
-- Depth
theorem tB:∀ args w,(callFunc 87 args).run prog w=.ok (.enter 87 args) w:=fun _ _=>by kernel_rfl
def gQ (w0:World) (T:List Nd) (ib ob i0:Nat) (s:Option Value):List aS:=match s with
 | none=>[af ob 57 [.slice none 0 0],ac ib 3 [.int .i64 (i0:Nat)]]
 | some kv=>[af ob 57 [kv],ac ib 3 [.int .i64 (i0:Nat)],bc w0 kv (ai T i0)]
def qb (i0 n:Nat) (s:Option Value):Prop:=s=none↔n≤i0
theorem sq (w0:World) (T:List Nd) (t:List NdA) (ib ob i0:Nat) (hib:ib≠ob) (hb:w0.heap.size≤ob):oL w0 T t (gQ w0 T ib ob i0) (qb i0) (some ob) 87 #[.pointer (some ⟨ib,0,none⟩),.pointer (some ⟨ob,0,none⟩)]:=by
 intro i s W kv d st ps hi hR hst hd hok hps hkr hks
 show Calls prog 87 #[.int .i64 (i:Nat),kv,.int .i64 (d:Nat),.pointer (some ⟨ib,0,none⟩),.pointer (some ⟨ob,0,none⟩)] W _
 have HIB:=keep hib
 clear hib
 by_cases he:i=i0
 ·subst he
  obtain rfl:s=none:=hR.2 (Nat.le_refl _)
  obtain ⟨ka,kc,hkv⟩:=bp (show W.ownsRow w0.heap.size 3 1 kv _ _ from hok.get (bc w0 kv (ai T i)) (List.mem_cons_self ..))
  obtain ⟨kn,hkn⟩:=ex ((ai T i).length)
  rw [hkn] at hkv
  subst hkv
  obtain ⟨kv,hkv⟩:∃ kv:Value,kv=.slice ka kn kc:=⟨_,rfl⟩
  rw [← hkv] at hok hkr hks ⊢
  have HR:=keep (show qb i (i+1) (some kv) from ⟨fun h=>by (cases h),fun h=>by omega⟩)
  have H1:=Lib.hid (show Ok w0 (af ob 57 [.slice none 0 0]::ac ib 3 [.int .i64 (i:Nat)]::bc w0 kv (ai T i)::ps) W from hok.drop _ (by
   intro x hx
   simp only [gQ,List.mem_cons,List.mem_append,List.not_mem_nil,or_false] at hx ⊢
   rcases hx with h | h | h | h <;> simp [h]))
  have HP:=keep (show ∀ x∈(ac ib 3 [.int .i64 (i:Nat)]::bc w0 kv (ai T i)::ps),x.far (some ob) by
   intro x hx
   simp only [List.mem_cons] at hx
   rcases hx with rfl | rfl | hx
   ·show some ib≠some ob
    simp only [ne_eq,Option.some.injEq]
    exact HIB.out
   ·exact hkr
   exact hps x hx)
  clear hR hst hd hok hps hkr hks hi
  have F:=sE H1
  obtain ⟨P,hP⟩:∃ P:Ending→World→Prop,(fun (e:Ending) (W':World)=>e=.returned (.tuple #[])∧∃ s',qb i (i+1) s'∧(∀ rw,(∀ x∈gQ w0 T ib ob i none,x.far rw)→(bc w0 kv (ai T i)).far rw→∀ x∈gQ w0 T ib ob i s',x.far rw)∧Ok w0 (gQ w0 T ib ob i s'++ps) W')=P:=⟨_,rfl⟩
  rw [hP]
  have HPP:=keep hP
  clear hP hkn
  subst hkv
  go_enter func87,ntmps87
  go_wp2_with fail
  have H2:=Lib.hid (H1.out.set_ (i:=0) (u:=.slice ka kn kc) hb HP.out)
  first
   | go_end0
   | refine bodyPost_ret (results_none rfl _ _ _) rfl ?_
  rw [← HPP.out]
  refine ⟨rfl,some (.slice ka kn kc),HR.out,fun rw h hk => ?_,H2.out⟩
  intro x hx
  simp only [gQ,List.mem_cons,List.not_mem_nil,or_false] at hx h
  rcases hx with rfl | rfl | rfl
  ·exact h (af ob 57 [.slice none 0 0]) (.inl rfl)
  ·exact h (ac ib 3 [.int .i64 (i:Nat)]) (.inr rfl)
  exact hk
 have hne:((i:Int) == (i0:Int))=false:=by simp; omega
 have HR:=keep (show qb i0 (i+1) s by
  constructor
  ·intro h; have:=hR.1 h; omega
  intro h; exact hR.2 (by omega))
 have H1:=Lib.hid hok.tail
 clear hR hst hd hok hps hkr hks hi he
 have hF:ib<W.heap.size∧W.cell? ⟨ib,0,none⟩=some (.int .i64 (i0:Nat)):=by
  have h9:Blk W ib 3 #[.int .i64 (i0:Nat)]:=H1.out.get (ac ib 3 [.int .i64 (i0:Nat)]) (by cases s <;> simp [gQ])
  exact ⟨h9.lt,by rw [h9.cell]; rfl⟩
 obtain ⟨z1,c1⟩:=hF
 obtain ⟨P,hP⟩:∃ P:Ending→World→Prop,(fun (e:Ending) (W':World)=>e=.returned (.tuple #[])∧∃ s',qb i0 (i+1) s'∧(∀ rw,(∀ x∈gQ w0 T ib ob i0 s,x.far rw)→(bc w0 kv (ai T i)).far rw→∀ x∈gQ w0 T ib ob i0 s',x.far rw)∧Ok w0 (gQ w0 T ib ob i0 s'++ps) W')=P:=⟨_,rfl⟩
 rw [hP]
 have HPP:=keep hP
 clear hP
 go_enter func87,ntmps87
 go_wp2_with fail
 first
  | go_end0
  | refine bodyPost_ret (results_none rfl _ _ _) rfl ?_
 rw [← HPP.out]
 exact ⟨rfl,s,HR.out,fun rw h _=>h,H1.out⟩
def oK (ks:List Nat) (w:World) (e:Ending) (w':World):Prop :=
 ∃ kv,e=.returned (.tuple #[kv,.int .i64 0])∧w'.ownsRow w.heap.size 3 1 kv ks.length (ks.map fun x=>.int .i64 (x:Nat))∧Below w.heap.size w w'
theorem qD (t:List NdA) (i:Nat) (ta:Option Addr) (tc:Nat) (w:World) (ht:bi w ta 11 (t.map dv)) (htl:t.length≤1000) (htx:∀ a∈t,AF a) (hc:aI t=0) (hi:i<t.length) :
  Calls prog 49 #[.slice ta t.length tc,.int .i64 (i:Nat)] w (oK (ai (t.map NdA.nd) i) w):=by
 have H1:=Lib.hid (((Ok.start w).alloc w.heap.size 3 [.int .i64 (i:Nat)] rfl).var (w.heap.size+1) 57 [.slice none 0 0] (by simp))
 have HC:=keep (iY w ((w.alloc (.cells #[.int .i64 (i:Nat)] 3)).alloc (.cells #[.slice none 0 0] 57)) t ta tc (gQ w (t.map NdA.nd) w.heap.size (w.heap.size+1) i) (qb i) none (some (w.heap.size+1)) _ #[.pointer (some ⟨w.heap.size,0,none⟩),.pointer (some ⟨w.heap.size+1,0,none⟩)] ht htl htx H1.out ⟨fun _=>Nat.zero_le _,fun _=>rfl⟩ (fun b h=>by cases h; simp) (.inr fun s rw h=>fun e=>by
  subst e
  have h9:∃ cs,af (w.heap.size+1) 57 cs∈gQ w (t.map NdA.nd) w.heap.size (w.heap.size+1) i s:=by
   cases s with
   | none=>exact ⟨_,List.mem_cons_self ..⟩
   | some kv=>exact ⟨_,List.mem_cons_self ..⟩
  obtain ⟨cs,h9⟩:=h9
  exact h _ h9 rfl) (sq w _ t w.heap.size (w.heap.size+1) i (by omega) (by omega)) tB)
 rw [hc] at HC
 have h0:¬ ((i:Int)<0):=by omega
 have hge:¬ ((i:Int)≥(t.length:Nat)):=by omega
 clear hc ht htx
 obtain ⟨ks,hks⟩:=ex (ai (t.map NdA.nd) i)
 rw [hks]
 have HKS:=keep hks
 clear hks
 obtain ⟨tl,htl2⟩:=ex (t.length)
 rw [htl2] at HC htl hi hge ⊢
 have HTL:=keep htl2
 clear htl2
 go_enter func49,ntmps49
 go_wp2_with fail
 refine HC.out.mono ?_
 rintro e w1 ⟨rfl,n,s,a1,a2,a3,a4⟩
 have hn:=a3 rfl
 rw [HTL.out] at hn
 subst hn
 cases s with
 | none=>exact absurd (a1.1 rfl) (by omega)
 | some kv =>
  have H2:=Lib.hid a4
  clear a1 a2 a3 a4
  have F:=H2.out.sees
  simp only [gQ,sees,af,ac,aa] at F
  obtain ⟨⟨⟨z0,f0⟩,c0,-⟩,⟨z1,c1,-⟩,-⟩:=F
  go_wp2_with fail
  refine bodyPost_ret (v:=.tuple #[kv,.int .i64 0]) (by simp [results,results49,go_sem]) rfl ⟨kv,rfl,?_,H2.out.bel⟩
  have h9:w1.ownsRow w.heap.size 3 1 kv _ _:=H2.out.get (bc w kv (ai (t.map NdA.nd) i)) (by simp [gQ])
  rw [HKS.out] at h9
  exact h9
