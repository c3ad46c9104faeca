/- The parser's call. -/
import Derived.Test.YtdplcdhpnmcdjaaGreatDoorKRqC
import Derived.Test.YtdplcdhpnmcdjaaGreatDoorKTg
import Derived.IntWalk
namespace Go.Proofs.YtdplcdhpnmcdjaaGreatDoor
set_option maxRecDepth 100000
set_option maxHeartbeats 8000000
open Go.RowKit Go.Proofs.Tryz
theorem iz {x:Option Rs} {g:List Tk→Nat→Option Rs} {ts:List Tk} {ns:List Nd} {n:Nat} (h:fe x g=some (.ok ts ns n)) (hx:∀ ts1 ns1 n1,x=some (.ok ts1 ns1 n1)→ns1≠[]):ns≠[]:=by
 obtain ⟨t1,ns1,n1,ns2,h1,h2,rfl⟩:=seq_ok h
 have:=hx _ _ _ h1
 simp [this]
theorem fC {e:Nat}:∀ (f:Nat) (m:Md) (ts ts':List Tk) (ns:List Nd) (n:Nat),ap e f m ts=some (.ok ts' ns n)→(∀ k,m≠.ops k)→ns≠[]
 | 0,_,_,_,_,_,h,_=>by simp [ap] at h
 | f+1,.lv k,ts,ts',ns,n,h,_=>by
  rw [ap] at h
  split at h
  ·exact fC f _ _ _ _ _ h (by simp)
  exact iz h fun _ _ _ h1=>fC f _ _ _ _ _ h1 (by simp)
 | f+1,.ops k,_,_,_,_,_,hm=>absurd rfl (hm k)
 | f+1,.sg,ts,ts',ns,n,h,_=>by
  rw [ap] at h
  split at h
  ·exact iz h fun _ _ _ h1=>fC f _ _ _ _ _ h1 (by simp)
  exact iz h fun _ _ _ h1=>fC f _ _ _ _ _ h1 (by simp)
 | f+1,.pc,ts,ts',ns,n,h,_=>by
  rw [ap] at h
  exact iz h fun _ _ _ h1=>fC f _ _ _ _ _ h1 (by simp)
 | f+1,.pr,[],ts',ns,n,h,_=>by simp [ap] at h
 | f+1,.pr,t::ts,ts',ns,n,h,_=>by
  rw [ap] at h
  split at h
  ·simp only [Option.some.injEq,Rs.ok.injEq] at h
   obtain ⟨_,rfl,_⟩:=h
   simp
  split at h
  ·simp only [Option.some.injEq,Rs.ok.injEq] at h
   obtain ⟨_,rfl,_⟩:=h
   simp
  split at h
  ·exact iz h fun _ _ _ h1=>fC f _ _ _ _ _ h1 (by simp)
  split at h
  ·split at h
   ·simp at h
   split at h
   ·simp at h
   obtain ⟨_,ns1,_,_,_,rfl,_⟩:=gM h
   simp
  simp at h
 | f+1,.args fn i,ts,ts',ns,n,h,_=>by
  rw [ap] at h
  refine iz h fun ts1 ns1 n1 h1 => ?_
  split at h1
  ·exact fC f _ _ _ _ _ h1 (by simp)
  split at h1
  ·simp only [Option.some.injEq,Rs.ok.injEq] at h1
   obtain ⟨_,rfl,_⟩:=h1
   simp
  simp at h1
theorem sK (fn:Nat):1≤(arS fn).1:=by
 unfold arS
 repeat' split
 all_goals simp
theorem iK {e fn a n:Nat} {ts:List Tk} {ns:List Nd} {r:Rs} (h:dH e fn a (some (.ok ts ns n))=some r) :
  ((hdS e ts).kind≠10∧r=.bad (hdS e ts).at_ 4)∨((hdS e ts).kind=10∧((n<(arS fn).1∨(arS fn).2<n)∧r=.bad a 11∨(¬ (n<(arS fn).1∨(arS fn).2<n)) ∧
   ((46≤fn∧(ns.getLast?.map (·.kind))≠some 2∧(ns.getLast?.map (·.kind))≠some 3)∧r=.bad a 4∨(¬ (46≤fn∧(ns.getLast?.map (·.kind))≠some 2∧(ns.getLast?.map (·.kind))≠some 3))∧r=.ok (ts.drop 1) (ns++[da fn n]) n))):=by
 unfold dH at h
 simp only [] at h
 split at h
 ·rename_i h1
  simp at h
  exact .inl ⟨h1,h.symm⟩
 rename_i h1
 refine .inr ⟨by simpa using h1,?_⟩
 split at h
 ·rename_i h2
  simp at h
  exact .inl ⟨h2,h.symm⟩
 rename_i h2
 refine .inr ⟨h2,?_⟩
 split at h
 ·rename_i h3
  simp at h
  exact .inl ⟨h3,h.symm⟩
 rename_i h3
 simp at h
 exact .inr ⟨h3,by rw [← h]; simp⟩
def qW (e f:Nat) (t:Tk) (ts:List Tk):Option Rs :=
 if fnS t.text=0 then some (.bad t.at_ 10)
 else if (hdS e ts).kind≠9 then some (.bad (hdS e ts).at_ 4)
 else dH e (fnS t.text) t.at_ (if (hdS e (ts.drop 1)).kind=10 then some (.ok (ts.drop 1) [] 0) else ap e f (.args (fnS t.text) 0) (ts.drop 1))
theorem pI {e g fn i:Nat} {ts:List Tk} {q:Rs} (h:ap e (g+1) (.args fn i) ts=some q) :
  (∃ a c,ng e g fn i ts=some (.bad a c)∧q=.bad a c)∨∃ ts1 ns1 n1,ng e g fn i ts=some (.ok ts1 ns1 n1) ∧
   (((hdS e ts1).kind≠11∧q=.ok ts1 ns1 (i+1))∨((hdS e ts1).kind=11∧∃ q2,ap e g (.args fn (i+1)) (ts1.drop 1)=some q2∧q=cB ns1 q2)):=by
 rw [ap] at h
 rcases ce h with ⟨a,c,h1,h2⟩ | ⟨ts1,ns1,n1,q1,h1,h2,rfl⟩
 ·exact .inl ⟨a,c,h1,h2⟩
 refine .inr ⟨ts1,ns1,n1,h1,?_⟩
 split at h2
 ·rename_i hk
  exact .inr ⟨hk,q1,h2,rfl⟩
 rename_i hk
 simp at h2
 subst h2
 exact .inl ⟨hk,by simp [cB]⟩
theorem pH {e g fn i:Nat} {ts ts1:List Tk} {ns1:List Nd} {n1:Nat} (h:ng e g fn i ts=some (.ok ts1 ns1 n1)):ns1.length+ts1.length≤ts.length:=by
 unfold ng at h
 split at h
 ·exact aE _ _ _ _ _ _ h
 rename_i h6
 split at h
 ·simp only [Option.some.injEq,Rs.ok.injEq] at h
  obtain ⟨rfl,rfl,_⟩:=h
  have hd:=fP (e:=e) (ts:=ts) (k:=6) (by simpa using h6) (by decide)
  simp at hd ⊢
  omega
 simp at h
theorem vL {e f fn i:Nat} {ts:List Tk} {r:Rs} (h:ap e f (.args fn i) ts=some r):∃ g,f=g+1:=by
 cases f with
 | zero=>simp [ap] at h
 | succ g=>exact ⟨g,rfl⟩
theorem St.last {w1 w:World} {ps:List aS} {pb en:Nat} {ts:List Tk} {ns:List Nd} {nd:Nd} (h:St w1 ps pb en ts (ns++[nd]) w) :
  ∃ la c g cap,w.cell? ⟨pb,0,none⟩=some (.slice la ts.length c)∧w.cell? ⟨pb,1,none⟩=some (.int .i64 (en:Int))∧w.cell? ⟨pb,2,none⟩=some (.slice (some ⟨g,0,none⟩) (ns.length+1) cap)∧pb<w.heap.size∧g<w.heap.size∧w.cell? ⟨g,ns.length * 11,none⟩=some (.int .u8 (nd.kind:Nat)):=by
 obtain ⟨h1,h2,la,c,ov,hT,hO⟩:=h
 have F:=hO.ok.sees
 simp only [af,aa,Nat.reduceAdd] at F
 obtain ⟨⟨⟨hp0,-⟩,p0,p1,p2,-⟩,-⟩:=F
 have hown:=hO.own
 have hcl:=@World.ownsRow.cells _ _ _ _ _ _ _ hown
 have hlt:=hown.lt
 rcases hown.2 with ⟨-,hl⟩ | ⟨g,cap,cur,rfl,_,_,hn,hm,_⟩
 ·simp at hl
 refine ⟨la,c,g,cap,p0,p1,by rw [p2]; simp,hp0,(hlt g rfl).2,?_⟩
 have:=hcl rfl (ns.length * 11) (.int .u8 (nd.kind:Nat)) (by
  rw [gU,List.getElem?_append_right (by rw [iO]; exact Nat.le_refl _),iO,Nat.sub_self]
  rfl)
 rwa [show (⟨g,0,none⟩:Addr).add (ns.length * 11)=⟨g,ns.length * 11,none⟩ by unfold Addr.add; split <;> simp_all] at this
theorem eJ (a b c d e f g h:Value) (w:World):(Instr.field 97 (.agg #[a,b,c,d,e,f,g,h]) 0).run prog w=.ok a w:=by kernel_rfl
theorem wW (f:Nat) (IH:∀ g,g≤f→Con g) (w1:World) (ps:List aS) (pb en:Nat) (t:Tk) (ts:List Tk) (r:Rs) (ns:List Nd) (w:World) (hr:qW en f t ts=some r) (hn:ns.length+(t::ts).length≤1000) (h:St w1 ps pb en (t::ts) ns w) :
  Calls prog 231 #[.pointer (some ⟨pb,0,none⟩),tkA t] w (fh w1 ps pb en (cB ns r)):=by
 unfold qW at hr
 have H:=Lib.hid h
 clear h
 obtain ⟨tk,tn,tt,⟨t1,t2,t3,t4⟩,ta⟩:=t
 simp only [List.length_cons] at hn
 simp only [] at hr
 simp only [tkA]
 have hle:=rx tt
 have HFE:=keep (show (fnS tt=0→fnE tt=6)∧(fnS tt≠0→fnE tt=0) from ⟨fun h=>if_pos h,fun h=>if_neg h⟩)
 obtain ⟨fn,hfn⟩:=ex (fnS tt)
 rw [hfn] at hr hle HFE
 have HFN:=keep hfn
 clear hfn
 by_cases h0:fn=0
 ·rw [if_pos h0] at hr
  simp only [Option.some.injEq] at hr
  subst hr
  have HE:=keep (HFE.out.1 h0)
  clear h0
  go_enter func231,ntmps231
  go_upto_region 1 with fail
  have H1:=Lib.hid (H.out.alloc 97 [.int .u8 tk,.int .i64 tn,.string ⟨tt.toArray⟩,.int .i64 t1,.int .i64 t2,.int .i64 t3,.int .i64 t4,.int .i64 ta])
  clear H
  have H1a:Hid (St w1 (ac w.heap.size 97 [.int .u8 tk,.int .i64 tn,.string ⟨tt.toArray⟩,.int .i64 t1,.int .i64 t2,.int .i64 t3,.int .i64 t4,.int .i64 ta]::ps) pb en (⟨tk,tn,tt,⟨t1,t2,t3,t4⟩,ta⟩::ts) ns (w.alloc (.cells #[.int .u8 tk,.int .i64 tn,.string ⟨tt.toArray⟩,.int .i64 t1,.int .i64 t2,.int .i64 t3,.int .i64 t4,.int .i64 ta] 97))):=H1
  clear H1
  generalize (w.alloc (.cells #[.int .u8 tk,.int .i64 tn,.string ⟨tt.toArray⟩,.int .i64 t1,.int .i64 t2,.int .i64 t3,.int .i64 t4,.int .i64 ta] 97))=Wa2 at H1a ⊢
  have F3:=H1a.out.sees
  simp only [sees,ac,aa,Nat.reduceAdd] at F3
  obtain ⟨zp,⟨z0,c00,c01,c02,c03,c04,c05,c06,c07,-⟩,-⟩:=F3
  go_wp2_with fail
  refine cMg (df tt _) (fun _=>H1a.out.below) fun wa4 H6=>?_
  rw [HFN.out]
  clear zp z0 c00 c01 c02 c03 c04 c05 c06 c07 H1a
  have F7:=H6.out.sees
  simp only [sees,ac,aa,Nat.reduceAdd] at F7
  obtain ⟨zp,⟨z0,c00,c01,c02,c03,c04,c05,c06,c07,-⟩,-⟩:=F7
  rw [HE.out]
  go_wp2_with fail
  refine (dO w1 pb _ _ _ H6.out.bel).mono ?_
  rintro e wz ⟨rfl,hb⟩
  have HZ:=Lib.hid hb
  clear hb
  go_wp2_with fail
  exact ⟨rfl,rfl,HZ.out⟩
 rw [if_neg h0] at hr
 have HE:=keep (HFE.out.2 h0)
 have hf1:1≤fn:=by omega
 clear h0
 by_cases h9:(hdS en ts).kind=9
 ·rw [if_neg (by simpa using h9)] at hr
  cases ts with
  | nil=>exact absurd h9 (by simp [hdS])
  | cons t9 ts =>
   simp only [List.drop_succ_cons,List.drop_zero,List.length_cons] at hr hn
   have KH9:=keep h9
   clear h9
   by_cases h10:(hdS en ts).kind=10
   ·rw [if_pos h10] at hr
    have hap:=sK fn
    have hbad:r=.bad ta 11:=by
     rcases iK hr with ⟨h1,_⟩ | ⟨_,⟨_,h2⟩ | ⟨h2,_⟩⟩
     ·exact absurd h10 h1
     ·exact h2
     exact absurd (.inl (by omega)) h2
    subst hbad
    have hr2:=hr
    clear hr hr2
    have KH10:=keep h10
    go_enter func231,ntmps231
    go_upto_region 1 with fail
    have H1:=Lib.hid (H.out.alloc 97 [.int .u8 tk,.int .i64 tn,.string ⟨tt.toArray⟩,.int .i64 t1,.int .i64 t2,.int .i64 t3,.int .i64 t4,.int .i64 ta])
    clear H
    have H1a:Hid (St w1 (ac w.heap.size 97 [.int .u8 tk,.int .i64 tn,.string ⟨tt.toArray⟩,.int .i64 t1,.int .i64 t2,.int .i64 t3,.int .i64 t4,.int .i64 ta]::ps) pb en (⟨tk,tn,tt,⟨t1,t2,t3,t4⟩,ta⟩::t9::ts) ns (w.alloc (.cells #[.int .u8 tk,.int .i64 tn,.string ⟨tt.toArray⟩,.int .i64 t1,.int .i64 t2,.int .i64 t3,.int .i64 t4,.int .i64 ta] 97))):=H1
    clear H1
    generalize (w.alloc (.cells #[.int .u8 tk,.int .i64 tn,.string ⟨tt.toArray⟩,.int .i64 t1,.int .i64 t2,.int .i64 t3,.int .i64 t4,.int .i64 ta] 97))=Wa2 at H1a ⊢
    have F3:=H1a.out.sees
    simp only [sees,ac,aa,Nat.reduceAdd] at F3
    obtain ⟨zp,⟨z0,c00,c01,c02,c03,c04,c05,c06,c07,-⟩,-⟩:=F3
    go_wp2_with fail
    refine cMg (df tt _) (fun _=>H1a.out.below) fun wa4 H6=>?_
    rw [HFN.out]
    clear zp z0 c00 c01 c02 c03 c04 c05 c06 c07 H1a
    have F7:=H6.out.sees
    simp only [sees,ac,aa,Nat.reduceAdd] at F7
    obtain ⟨zp,⟨z0,c00,c01,c02,c03,c04,c05,c06,c07,-⟩,-⟩:=F7
    rw [HE.out]
    go_wp2_with fail
    refine (bF w1 _ pb en _ (t9::ts) _ _ H6.out).mono ?_
    rintro e wa8 ⟨rfl,hd9⟩
    clear zp z0 c00 c01 c02 c03 c04 c05 c06 c07
    have H9:=Lib.hid hd9
    clear hd9 H6
    have F10:=H9.out.sees
    simp only [sees,ac,aa,Nat.reduceAdd] at F10
    obtain ⟨zp,⟨z0,c00,c01,c02,c03,c04,c05,c06,c07,-⟩,-⟩:=F10
    go_wp2_with fail
    refine (iw w1 _ pb en (t9::ts) _ 9 _ H9.out KH9.out (by decide)).mono ?_
    rintro e wa11 ⟨rfl,hd9⟩
    clear zp z0 c00 c01 c02 c03 c04 c05 c06 c07
    have H12:=Lib.hid hd9
    clear hd9 H9
    clear KH9
    simp only [List.drop_succ_cons,List.drop_zero] at H12
    have F13:=H12.out.sees
    simp only [sees,ac,aa,Nat.reduceAdd] at F13
    obtain ⟨zp,⟨z0,c00,c01,c02,c03,c04,c05,c06,c07,-⟩,-⟩:=F13
    go_wp2_with fail
    obtain ⟨⟨hk,hnn,htt,⟨r1,r2,r3,r4⟩,hat⟩,hth⟩:∃ t,hdS en ts=t:=⟨_,rfl⟩
    have hk10:hk=10:=by have:=KH10.out; rw [hth] at this; exact this
    subst hk10
    clear KH10 h10
    refine cMg (aX w1 _ pb en ts ns _ H12.out) (fun _=>H12.out.below) fun wa14 H16=>?_
    rw [hth]
    clear zp z0 c00 c01 c02 c03 c04 c05 c06 c07 H12
    have F17:=H16.out.sees
    simp only [sees,ac,aa,Nat.reduceAdd] at F17
    obtain ⟨zp,⟨z0,c00,c01,c02,c03,c04,c05,c06,c07,-⟩,-⟩:=F17
    simp only [tkA]
    have hfk:=eJ
    go_wp2_with fail
    clear hfk
    refine cMg (aX w1 _ pb en ts ns _ H16.out) (fun _=>H16.out.below) fun wa18 H20=>?_
    rw [hth]
    clear zp z0 c00 c01 c02 c03 c04 c05 c06 c07 H16
    have F21:=H20.out.sees
    simp only [sees,ac,aa,Nat.reduceAdd] at F21
    obtain ⟨zp,⟨z0,c00,c01,c02,c03,c04,c05,c06,c07,-⟩,-⟩:=F21
    simp only [tkA]
    go_upto_region 13 with fail
    clear zp z0 c00 c01 c02 c03 c04 c05 c06 c07
    have H22:=Lib.hid (H20.out.alloc 97 [.int .u8 ((10:Nat):Int),.int .i64 hnn,.string ⟨htt.toArray⟩,.int .i64 r1,.int .i64 r2,.int .i64 r3,.int .i64 r4,.int .i64 hat])
    clear H20
    have H22a:Hid (St w1 (ac wa18.heap.size 97 [.int .u8 ((10:Nat):Int),.int .i64 hnn,.string ⟨htt.toArray⟩,.int .i64 r1,.int .i64 r2,.int .i64 r3,.int .i64 r4,.int .i64 hat]::(ac (w.heap.size) 97 [.int .u8 tk,.int .i64 tn,.string ⟨tt.toArray⟩,.int .i64 t1,.int .i64 t2,.int .i64 t3,.int .i64 t4,.int .i64 ta]::ps)) pb en ts ns (wa18.alloc (.cells #[.int .u8 ((10:Nat):Int),.int .i64 hnn,.string ⟨htt.toArray⟩,.int .i64 r1,.int .i64 r2,.int .i64 r3,.int .i64 r4,.int .i64 hat] 97))):=H22
    clear H22
    generalize (wa18.alloc (.cells #[.int .u8 ((10:Nat):Int),.int .i64 hnn,.string ⟨htt.toArray⟩,.int .i64 r1,.int .i64 r2,.int .i64 r3,.int .i64 r4,.int .i64 hat] 97))=Wa23 at H22a ⊢
    have F24:=H22a.out.sees
    simp only [sees,ac,aa,Nat.reduceAdd] at F24
    obtain ⟨zp,⟨z0,c00,c01,c02,c03,c04,c05,c06,c07,-⟩,⟨z1,c10,c11,c12,c13,c14,c15,c16,c17,-⟩,-⟩:=F24
    have hap2:(0:Int)<((arS fn).1:Nat):=by omega
    go_wp2_with fail
    refine (cw fn _ hf1 hle).mono ?_
    rintro e wa25 ⟨rfl,hw26⟩
    obtain rfl:Wa23=wa25:=hw26.symm
    go_wp2_with fail
    refine (dO w1 pb _ _ _ H22a.out.bel).mono ?_
    rintro e wz ⟨rfl,hb⟩
    have HZ:=Lib.hid hb
    clear hb
    go_wp2_with fail
    exact ⟨rfl,rfl,HZ.out⟩
   rw [if_neg h10] at hr
   have KH10:=keep h10
   clear h10
   obtain ⟨q0,hq0⟩:∃ q0,ap en f (.args fn 0) ts=some q0:=by
    cases hp:ap en f (.args fn 0) ts with
    | none=>rw [hp] at hr; simp [dH] at hr
    | some q=>exact ⟨q,rfl⟩
   rw [hq0] at hr
   have HQ0:=keep hq0
   have HCL:=keep hr
   clear hr hq0
   go_enter func231,ntmps231
   go_upto_region 1 with fail
   have H1:=Lib.hid (H.out.alloc 97 [.int .u8 tk,.int .i64 tn,.string ⟨tt.toArray⟩,.int .i64 t1,.int .i64 t2,.int .i64 t3,.int .i64 t4,.int .i64 ta])
   clear H
   have H1a:Hid (St w1 (ac w.heap.size 97 [.int .u8 tk,.int .i64 tn,.string ⟨tt.toArray⟩,.int .i64 t1,.int .i64 t2,.int .i64 t3,.int .i64 t4,.int .i64 ta]::ps) pb en (⟨tk,tn,tt,⟨t1,t2,t3,t4⟩,ta⟩::t9::ts) ns (w.alloc (.cells #[.int .u8 tk,.int .i64 tn,.string ⟨tt.toArray⟩,.int .i64 t1,.int .i64 t2,.int .i64 t3,.int .i64 t4,.int .i64 ta] 97))):=H1
   clear H1
   generalize (w.alloc (.cells #[.int .u8 tk,.int .i64 tn,.string ⟨tt.toArray⟩,.int .i64 t1,.int .i64 t2,.int .i64 t3,.int .i64 t4,.int .i64 ta] 97))=Wa2 at H1a ⊢
   have F3:=H1a.out.sees
   simp only [sees,ac,aa,Nat.reduceAdd] at F3
   obtain ⟨zp,⟨z0,c00,c01,c02,c03,c04,c05,c06,c07,-⟩,-⟩:=F3
   go_wp2_with fail
   refine cMg (df tt _) (fun _=>H1a.out.below) fun wa4 H6=>?_
   rw [HFN.out]
   clear zp z0 c00 c01 c02 c03 c04 c05 c06 c07 H1a
   have F7:=H6.out.sees
   simp only [sees,ac,aa,Nat.reduceAdd] at F7
   obtain ⟨zp,⟨z0,c00,c01,c02,c03,c04,c05,c06,c07,-⟩,-⟩:=F7
   rw [HE.out]
   go_wp2_with fail
   refine (bF w1 _ pb en _ (t9::ts) _ _ H6.out).mono ?_
   rintro e wa8 ⟨rfl,hd9⟩
   clear zp z0 c00 c01 c02 c03 c04 c05 c06 c07
   have H9:=Lib.hid hd9
   clear hd9 H6
   have F10:=H9.out.sees
   simp only [sees,ac,aa,Nat.reduceAdd] at F10
   obtain ⟨zp,⟨z0,c00,c01,c02,c03,c04,c05,c06,c07,-⟩,-⟩:=F10
   go_wp2_with fail
   refine (iw w1 _ pb en (t9::ts) _ 9 _ H9.out KH9.out (by decide)).mono ?_
   rintro e wa11 ⟨rfl,hd9⟩
   clear zp z0 c00 c01 c02 c03 c04 c05 c06 c07
   have H12:=Lib.hid hd9
   clear hd9 H9
   clear KH9
   simp only [List.drop_succ_cons,List.drop_zero] at H12
   have F13:=H12.out.sees
   simp only [sees,ac,aa,Nat.reduceAdd] at F13
   obtain ⟨zp,⟨z0,c00,c01,c02,c03,c04,c05,c06,c07,-⟩,-⟩:=F13
   go_wp2_with fail
   obtain ⟨⟨hk,hnn,htt,⟨r1,r2,r3,r4⟩,hat⟩,hth⟩:∃ t,hdS en ts=t:=⟨_,rfl⟩
   have hk10:((hk:Int) != 10)=true:=by have:=KH10.out; rw [hth] at this; simp only [] at this; simp; omega
   clear KH10
   refine cMg (aX w1 _ pb en ts ns _ H12.out) (fun _=>H12.out.below) fun wa14 H16=>?_
   rw [hth]
   clear zp z0 c00 c01 c02 c03 c04 c05 c06 c07 H12
   clear hth
   simp only [tkA]
   have hfk:=eJ
   go_wp2_with fail
   clear hk10 hfk
   go_loopg [6] ts.length (fun gf nv wr=>∃ (tsc:List Tk) (nsc:List Nd) (g i:Nat) (qc:Rs),gf=tsc.length∧nv=.int .i64 (i:Int)∧i+tsc.length≤1000∧ao (g≤f∧ap en g (.args fn i) tsc=some qc∧∃ nb,nsc=ns++nb∧cB nb qc=q0)∧nsc.length+tsc.length≤1000∧Hid (St w1 (ac (w.heap.size) 97 [.int .u8 tk,.int .i64 tn,.string ⟨tt.toArray⟩,.int .i64 t1,.int .i64 t2,.int .i64 t3,.int .i64 t4,.int .i64 ta]::ps) pb en tsc nsc wr))
   case atStart=>exact ⟨ts,ns,f,0,q0,rfl,rfl,by omega,keep ⟨Nat.le_refl _,HQ0.out,[],by simp,by cases q0 <;> simp [cB]⟩,by omega,H16⟩
   case round =>
    clear H16 HQ0
    obtain ⟨tsc,nsc,g,i,qc,hg,rfl,hil,HQ,hlc,HR⟩:=hrel
    obtain ⟨wp,rfl⟩:∃ wp:World,wp=wr:=⟨_,rfl⟩
    subst hg
    obtain ⟨hgf,hq,nb,hnb,hadd⟩:=HQ.out
    obtain ⟨g0,rfl⟩:=vL hq
    have HCL2:=HCL.out
    rw [← hadd] at HCL2
    rcases pI hq with ⟨a,c,h1,rfl⟩ | ⟨ts2,ns2,n2,h1,hnext⟩
    ·have hrb:r=.bad a c:=by simpa [cB,dH] using HCL2.symm
     subst hrb
     clear HCL2 hadd hq HQ
     have HC:=keep (fun ps w hs=>jF g0 fn i (fun j hj=>IH j (by omega)) hf1 hle w1 ps pb en tsc _ nsc w h1 hlc hs)
     clear h1
     go_wp2_with fail
     refine (HC.out _ _ HR.out).mono ?_
     rintro e wz ⟨rfl,hb⟩
     have HZ:=Lib.hid hb
     clear hb
     go_wp2_with fail
     exact ⟨rfl,rfl,HZ.out⟩
    have hln:=pH h1
    have hne:ns2≠[]:=by
     unfold ng at h1
     split at h1
     ·exact fC _ _ _ _ _ _ h1 (by simp)
     split at h1
     ·simp only [Option.some.injEq,Rs.ok.injEq] at h1
      obtain ⟨_,rfl,_⟩:=h1
      simp
     simp at h1
    have hl1:1≤ns2.length:=by
     cases ns2 with
     | nil=>exact absurd rfl hne
     | cons=>simp
    have HNE:=keep hne
    clear hne hq HQ
    have HC:=keep (fun ps w hs=>jF g0 fn i (fun j hj=>IH j (by omega)) hf1 hle w1 ps pb en tsc _ nsc w h1 hlc hs)
    clear h1
    have HADD:=keep hadd
    have HCL3:=keep HCL2
    have HNB:=keep hnb
    clear hadd HCL2 hnb
    have HNX:=keep hnext
    clear hnext
    go_wp2_with fail
    refine (HC.out _ _ HR.out).mono ?_
    rintro e wa17 ⟨rfl,hd9⟩
    have H18:=Lib.hid hd9
    clear hd9 HR
    clear HC
    go_wp2_with fail
    obtain ⟨⟨hk,hnn,htt,⟨r1,r2,r3,r4⟩,hat⟩,hth⟩:∃ t,hdS en ts2=t:=⟨_,rfl⟩
    refine cMg (aX w1 _ pb en ts2 _ _ H18.out) (fun _=>H18.out.below) fun wa19 H21=>?_
    rw [hth]
    clear H18
    simp only [tkA]
    by_cases hk11:hk=11
    ·have hx:=HNX.out
     rw [hth] at hx
     subst hk11
     obtain ⟨q2,hq2,rfl⟩:∃ q2,ap en g0 (.args fn (i+1)) (ts2.drop 1)=some q2∧qc=cB ns2 q2:=by
      rcases hx with ⟨h,_⟩ | ⟨_,h⟩
      ·exact absurd rfl h
      exact h
     clear hx
     cases ts2 with
     | nil=>simp [hdS] at hth
     | cons tc ts2 =>
      simp only [List.drop_succ_cons,List.drop_zero,List.length_cons] at hq2 hln
      have HQ2:=keep hq2
      clear hq2 HNX HCL3
      have hfk:=eJ
      go_wp2_with fail
      clear hfk
      refine (bF w1 _ pb en _ ts2 _ _ H21.out).mono ?_
      rintro e wa22 ⟨rfl,hd9⟩
      have H23:=Lib.hid hd9
      clear hd9 H21
      go_wp2_with fail
      go_roundg ts2.length
      case rel=>exact ⟨ts2,nsc++ns2,g0,i+1,q2,rfl,by go_num,by omega,keep ⟨by omega,HQ2.out,nb++ns2,by rw [HNB.out,List.append_assoc],by rw [← ef]; exact HADD.out⟩,by simp; omega,H23⟩
      case measure=>omega
    have hx:=HNX.out
    rw [hth] at hx
    obtain rfl:qc=.ok ts2 ns2 (i+1):=by
     rcases hx with ⟨_,h⟩ | ⟨h,_⟩
     ·exact h
     exact absurd h hk11
    clear hx HNX
    have hk11b:((hk:Int) != 11)=true:=by simp; omega
    have hcl:=HCL3.out
    simp only [cB] at hcl
    obtain ⟨nE,hnE⟩:=ex (i+1)
    rw [hnE] at hcl
    have hnEi:(i:Int)+1=(nE:Int):=by omega
    have HNEI:=keep hnEi
    have hnEl:nE≤1001:=by omega
    clear HCL3 HADD hk11 hnE
    obtain ⟨nd,nz,hnz⟩:∃ nd nz,ns2=nz++[nd]:=by
     rcases List.eq_nil_or_concat ns2 with h | ⟨nz,nd,h⟩
     ·exact absurd h HNE.out
     exact ⟨nd,nz,by rw [h,List.concat_eq_append]⟩
    subst hnz
    clear HNE
    have hlast:((nb++(nz++[nd])).getLast?.map (·.kind))=some nd.kind:=by rw [← List.append_assoc,List.getLast?_append]; simp
    have hcases:=iK hcl
    rw [hlast] at hcases
    clear hlast hcl
    obtain ⟨L,hL⟩:=ex (nb++(nz++[nd]))
    rw [hL] at hcases
    have hNS:nsc++(nz++[nd])=ns++L:=by rw [HNB.out,List.append_assoc,hL]
    have HNS:=keep hNS
    have hlL:(ns++L).length+ts2.length≤1000:=by rw [← hNS]; simp at hln ⊢; omega
    have HCS:=keep hcases
    clear hL hNS hcases hln
    have hnEi:=HNEI.out
    have hfk:=eJ
    go_wp2_with fail
    clear hk11b hnEi hfk
    obtain ⟨hth2⟩:Nonempty (ao (hdS en ts2=⟨hk,hnn,htt,⟨r1,r2,r3,r4⟩,hat⟩)):=⟨keep hth⟩
    clear hth
    refine cMg (aX w1 _ pb en ts2 _ _ H21.out) (fun _=>H21.out.below) fun wa22 H24=>?_
    rw [hth2.out]
    clear H21
    simp only [tkA]
    go_upto_region 13 with fail
    have H25:=Lib.hid (H24.out.alloc 97 [.int .u8 hk,.int .i64 hnn,.string ⟨htt.toArray⟩,.int .i64 r1,.int .i64 r2,.int .i64 r3,.int .i64 r4,.int .i64 hat])
    clear H24
    have H25a:Hid (St w1 (ac wa22.heap.size 97 [.int .u8 hk,.int .i64 hnn,.string ⟨htt.toArray⟩,.int .i64 r1,.int .i64 r2,.int .i64 r3,.int .i64 r4,.int .i64 hat]::(ac (w.heap.size) 97 [.int .u8 tk,.int .i64 tn,.string ⟨tt.toArray⟩,.int .i64 t1,.int .i64 t2,.int .i64 t3,.int .i64 t4,.int .i64 ta]::ps)) pb en ts2 (nsc++(nz++[nd])) (wa22.alloc (.cells #[.int .u8 hk,.int .i64 hnn,.string ⟨htt.toArray⟩,.int .i64 r1,.int .i64 r2,.int .i64 r3,.int .i64 r4,.int .i64 hat] 97))):=H25
    clear H25
    generalize (wa22.alloc (.cells #[.int .u8 hk,.int .i64 hnn,.string ⟨htt.toArray⟩,.int .i64 r1,.int .i64 r2,.int .i64 r3,.int .i64 r4,.int .i64 hat] 97))=Wa26 at H25a ⊢
    have F27:=H25a.out.sees
    simp only [sees,ac,aa,Nat.reduceAdd] at F27
    obtain ⟨zp,⟨z0,c00,c01,c02,c03,c04,c05,c06,c07,-⟩,⟨z1,c10,c11,c12,c13,c14,c15,c16,c17,-⟩,-⟩:=F27
    by_cases hk10:hk=10
    ·subst hk10
     have hx:=HCS.out
     rw [hth2.out] at hx
     have hx2:=hx.resolve_left (fun h=>h.1 rfl)
     have HCT:=keep hx2.2
     clear hx hx2 HCS
     go_wp2_with fail
     refine (cw fn _ hf1 hle).mono ?_
     rintro e wa28 ⟨rfl,hw29⟩
     obtain rfl:Wa26=wa28:=hw29.symm
     obtain ⟨lo,hlo⟩:=ex ((arS fn).1)
     obtain ⟨hi,hhi⟩:=ex ((arS fn).2)
     rw [hlo,hhi]
     have HCU:=keep (show _ from by have h9:=HCT.out; rw [hlo,hhi] at h9; exact h9)
     clear HCT hlo hhi
     by_cases hct:nE<lo∨hi<nE
     ·have hrb:r=.bad ta 11:=by
       rcases HCU.out with ⟨_,h⟩ | ⟨h,_⟩
       ·exact h
       exact absurd hct h
      subst hrb
      clear HCU
      by_cases hlo2:nE<lo
      ·have hlo3:(nE:Int)<(lo:Int):=by omega
       clear hct
       go_wp2_with fail
       refine (dO w1 pb _ _ _ H25a.out.bel).mono ?_
       rintro e wz ⟨rfl,hb⟩
       have HZ:=Lib.hid hb
       clear hb
       go_wp2_with fail
       exact ⟨rfl,rfl,HZ.out⟩
      have hlo3:¬ (nE:Int)<(lo:Int):=by omega
      have hhi3:(nE:Int)>(hi:Int):=by omega
      clear hct
      go_wp2_with fail
      refine (dO w1 pb _ _ _ H25a.out.bel).mono ?_
      rintro e wz ⟨rfl,hb⟩
      have HZ:=Lib.hid hb
      clear hb
      go_wp2_with fail
      exact ⟨rfl,rfl,HZ.out⟩
     have hlo3:¬ (nE:Int)<(lo:Int):=by omega
     have hhi3:¬ (nE:Int)>(hi:Int):=by omega
     have HCV:=keep (HCU.out.resolve_left (fun h=>hct h.1)).2
     clear HCU hct
     go_upto_region 18 with fail
     have hst:=H25a.out
     rw [← List.append_assoc] at hst
     obtain ⟨la,cc,gg,cap,s0,s1,s2,s3,s4,s5⟩:=St.last hst
     clear hst
     obtain ⟨LN,hLN⟩:=ex ((nsc++nz).length)
     rw [hLN] at s2 s5
     have hLNb:LN≤1000:=by rw [← hLN]; simp at hlL; have:=congrArg List.length HNS.out; simp at this ⊢; omega
     clear hLN
     have hlt1:(LN:Int)<(LN:Int)+1:=by omega
     have hwr:IntKind.i64.wrap (LN:Int)=(LN:Int):=Go.IntWalk.i64_in _ (by omega)
     have hidx:(((LN+1:Nat):Int) - 1)=(LN:Int):=by omega
     have hidx2:((LN:Int)+1 - 1)=(LN:Int):=by omega
     refine wp_region_held_drew (S:=fun W=>pb<W.heap.size∧gg<W.heap.size∧W.cell? ⟨pb,0,none⟩=some (.slice la ts2.length cc)∧W.cell? ⟨pb,1,none⟩=some (.int .i64 (en:Int))∧W.cell? ⟨pb,2,none⟩=some (.slice (some ⟨gg,0,none⟩) (LN+1) cap)∧W.cell? ⟨gg,LN * 11,none⟩=some (.int .u8 (nd.kind:Nat))) (by kernel_rfl) ⟨s3,s4,s0,s1,s2,s5⟩ (fun hHeld => ?_)
     refine wtf 0 ?_
     refine wtf 1 ?_
     refine wtf 2 ?_
     refine wtf 3 ?_
     refine wtf 4 ?_
     refine wtf 5 ?_
     refine wtf 6 ?_
     refine wtf 7 ?_
     refine wtf 8 ?_
     refine wtf 9 ?_
     refine wtf 10 ?_
     refine wtf 11 ?_
     refine wtf 12 ?_
     refine wtf 13 ?_
     refine wpAnyH_done (by kernel_rfl) ?_ _
     clear hHeld s0 s1 s2 s3 s4 s5 hwr hidx hidx2 hlt1
     clear zp z0 c00 c01 c02 c03 c04 c05 c06 c07 z1 c10 c11 c12 c13 c14 c15 c16 c17
     have H30:=Lib.hid (H25a.out.below ((Below.refl _ _).drew))
     clear H25a
     generalize Wa26.drew=Wa31 at H30 ⊢
     have F32:=H30.out.sees
     simp only [sees,ac,aa,Nat.reduceAdd] at F32
     obtain ⟨zp,⟨z0,c00,c01,c02,c03,c04,c05,c06,c07,-⟩,⟨z1,c10,c11,c12,c13,c14,c15,c16,c17,-⟩,-⟩:=F32
     obtain ⟨kn,hkn⟩:=ex (nd.kind)
     rw [hkn] at HCV ⊢
     have HKN:=keep hkn
     clear hkn
     have hcv:=HCV.out
     by_cases hA:46≤fn∧kn≠2∧kn≠3
     ·have hrb:r=.bad ta 4:=by
       rcases hcv with ⟨_,h⟩ | ⟨h,_⟩
       ·exact h
       exact absurd ⟨hA.1,by simpa using hA.2.1,by simpa using hA.2.2⟩ h
      subst hrb
      obtain ⟨a1,a2,a3⟩:=hA
      have a1i:(46:Int)≤(fn:Int):=by omega
      have a2i:((kn:Int) != 2)=true:=by simp; omega
      have a3i:((kn:Int) != 3)=true:=by simp; omega
      clear hcv HCV a2 a3
      go_wp2_with fail
      refine (dO w1 pb _ _ _ H30.out.bel).mono ?_
      rintro e wz ⟨rfl,hb⟩
      have HZ:=Lib.hid hb
      clear hb
      go_wp2_with fail
      exact ⟨rfl,rfl,HZ.out⟩
     have hrk:r=.ok (ts2.drop 1) (L++[da fn nE]) nE:=by
      rcases hcv with ⟨h,_⟩ | ⟨_,h⟩
      ·exact absurd ⟨h.1,by simpa using h.2.1,by simpa using h.2.2⟩ hA
      exact h
     subst hrk
     clear hcv HCV
     have hor:fn<46∨(46≤fn∧kn=2)∨(46≤fn∧kn≠2∧kn=3):=by omega
     clear hA
     cases ts2 with
     | nil=>exact absurd hth2.out (by simp [hdS])
     | cons tE ts3 =>
      simp only [List.length_cons] at hlL
      have hlen:(nsc++(nz++[nd])).length≤1000:=by rw [HNS.out]; omega
      have HLEN:=keep hlen
      clear hlen
      rcases hor with h46 | ⟨h46,hk2⟩ | ⟨h46,hk2,hk3⟩
      ·have a1i:¬ (46:Int)≤(fn:Int):=by omega
       clear h46
       go_wp2_with fail
       refine (bF w1 _ pb en _ ts3 _ _ H30.out).mono ?_
       rintro e wa33 ⟨rfl,hd9⟩
       clear zp z0 c00 c01 c02 c03 c04 c05 c06 c07 z1 c10 c11 c12 c13 c14 c15 c16 c17
       have H34:=Lib.hid hd9
       clear hd9 H30
       have F35:=H34.out.sees
       simp only [sees,ac,aa,Nat.reduceAdd] at F35
       obtain ⟨zp,⟨z0,c00,c01,c02,c03,c04,c05,c06,c07,-⟩,⟨z1,c10,c11,c12,c13,c14,c15,c16,c17,-⟩,-⟩:=F35
       go_wp2_with fail
       refine (fB w1 _ pb en ts3 _ (da fn nE) _ HLEN.out H34.out).mono ?_
       rintro e wa36 ⟨rfl,hd9⟩
       clear zp z0 c00 c01 c02 c03 c04 c05 c06 c07 z1 c10 c11 c12 c13 c14 c15 c16 c17
       have H37:=Lib.hid hd9
       clear hd9 H34
       have F38:=H37.out.sees
       simp only [sees,ac,aa,Nat.reduceAdd] at F38
       obtain ⟨zp,⟨z0,c00,c01,c02,c03,c04,c05,c06,c07,-⟩,⟨z1,c10,c11,c12,c13,c14,c15,c16,c17,-⟩,-⟩:=F38
       go_wp2_with fail
       first
        | go_end0
        | refine bodyPost_ret (results_none rfl _ _ _) rfl ?_
       exact ⟨rfl,by have h9:=H37.out.tail.tail; rw [HNS.out,List.append_assoc] at h9; exact h9⟩
      ·have a1i:(46:Int)≤(fn:Int):=by omega
       subst hk2
       clear h46
       go_wp2_with fail
       refine (bF w1 _ pb en _ ts3 _ _ H30.out).mono ?_
       rintro e wa33 ⟨rfl,hd9⟩
       clear zp z0 c00 c01 c02 c03 c04 c05 c06 c07 z1 c10 c11 c12 c13 c14 c15 c16 c17
       have H34:=Lib.hid hd9
       clear hd9 H30
       have F35:=H34.out.sees
       simp only [sees,ac,aa,Nat.reduceAdd] at F35
       obtain ⟨zp,⟨z0,c00,c01,c02,c03,c04,c05,c06,c07,-⟩,⟨z1,c10,c11,c12,c13,c14,c15,c16,c17,-⟩,-⟩:=F35
       go_wp2_with fail
       refine (fB w1 _ pb en ts3 _ (da fn nE) _ HLEN.out H34.out).mono ?_
       rintro e wa36 ⟨rfl,hd9⟩
       clear zp z0 c00 c01 c02 c03 c04 c05 c06 c07 z1 c10 c11 c12 c13 c14 c15 c16 c17
       have H37:=Lib.hid hd9
       clear hd9 H34
       have F38:=H37.out.sees
       simp only [sees,ac,aa,Nat.reduceAdd] at F38
       obtain ⟨zp,⟨z0,c00,c01,c02,c03,c04,c05,c06,c07,-⟩,⟨z1,c10,c11,c12,c13,c14,c15,c16,c17,-⟩,-⟩:=F38
       go_wp2_with fail
       first
        | go_end0
        | refine bodyPost_ret (results_none rfl _ _ _) rfl ?_
       exact ⟨rfl,by have h9:=H37.out.tail.tail; rw [HNS.out,List.append_assoc] at h9; exact h9⟩
      have a1i:(46:Int)≤(fn:Int):=by omega
      subst hk3
      clear hk2
      clear h46
      go_wp2_with fail
      refine (bF w1 _ pb en _ ts3 _ _ H30.out).mono ?_
      rintro e wa33 ⟨rfl,hd9⟩
      clear zp z0 c00 c01 c02 c03 c04 c05 c06 c07 z1 c10 c11 c12 c13 c14 c15 c16 c17
      have H34:=Lib.hid hd9
      clear hd9 H30
      have F35:=H34.out.sees
      simp only [sees,ac,aa,Nat.reduceAdd] at F35
      obtain ⟨zp,⟨z0,c00,c01,c02,c03,c04,c05,c06,c07,-⟩,⟨z1,c10,c11,c12,c13,c14,c15,c16,c17,-⟩,-⟩:=F35
      go_wp2_with fail
      refine (fB w1 _ pb en ts3 _ (da fn nE) _ HLEN.out H34.out).mono ?_
      rintro e wa36 ⟨rfl,hd9⟩
      clear zp z0 c00 c01 c02 c03 c04 c05 c06 c07 z1 c10 c11 c12 c13 c14 c15 c16 c17
      have H37:=Lib.hid hd9
      clear hd9 H34
      have F38:=H37.out.sees
      simp only [sees,ac,aa,Nat.reduceAdd] at F38
      obtain ⟨zp,⟨z0,c00,c01,c02,c03,c04,c05,c06,c07,-⟩,⟨z1,c10,c11,c12,c13,c14,c15,c16,c17,-⟩,-⟩:=F38
      go_wp2_with fail
      first
       | go_end0
       | refine bodyPost_ret (results_none rfl _ _ _) rfl ?_
      exact ⟨rfl,by have h9:=H37.out.tail.tail; rw [HNS.out,List.append_assoc] at h9; exact h9⟩
    have hrb:r=.bad hat 4:=by
     rcases HCS.out with ⟨_,h⟩ | ⟨h,_⟩
     ·rw [hth2.out] at h; exact h
     rw [hth2.out] at h; exact absurd h hk10
    subst hrb
    have hk10b:((hk:Int) != 10)=true:=by simp; omega
    clear HCS
    go_wp2_with fail
    refine (dO w1 pb _ _ _ H25a.out.bel).mono ?_
    rintro e wz ⟨rfl,hb⟩
    have HZ:=Lib.hid hb
    clear hb
    go_wp2_with fail
    exact ⟨rfl,rfl,HZ.out⟩
 rw [if_pos (by simpa using h9)] at hr
 simp only [Option.some.injEq] at hr
 subst hr
 have KH9:=keep h9
 clear h9
 go_enter func231,ntmps231
 go_upto_region 1 with fail
 have H1:=Lib.hid (H.out.alloc 97 [.int .u8 tk,.int .i64 tn,.string ⟨tt.toArray⟩,.int .i64 t1,.int .i64 t2,.int .i64 t3,.int .i64 t4,.int .i64 ta])
 clear H
 have H1a:Hid (St w1 (ac w.heap.size 97 [.int .u8 tk,.int .i64 tn,.string ⟨tt.toArray⟩,.int .i64 t1,.int .i64 t2,.int .i64 t3,.int .i64 t4,.int .i64 ta]::ps) pb en (⟨tk,tn,tt,⟨t1,t2,t3,t4⟩,ta⟩::ts) ns (w.alloc (.cells #[.int .u8 tk,.int .i64 tn,.string ⟨tt.toArray⟩,.int .i64 t1,.int .i64 t2,.int .i64 t3,.int .i64 t4,.int .i64 ta] 97))):=H1
 clear H1
 generalize (w.alloc (.cells #[.int .u8 tk,.int .i64 tn,.string ⟨tt.toArray⟩,.int .i64 t1,.int .i64 t2,.int .i64 t3,.int .i64 t4,.int .i64 ta] 97))=Wa2 at H1a ⊢
 have F3:=H1a.out.sees
 simp only [sees,ac,aa,Nat.reduceAdd] at F3
 obtain ⟨zp,⟨z0,c00,c01,c02,c03,c04,c05,c06,c07,-⟩,-⟩:=F3
 go_wp2_with fail
 refine cMg (df tt _) (fun _=>H1a.out.below) fun wa4 H6=>?_
 rw [HFN.out]
 clear zp z0 c00 c01 c02 c03 c04 c05 c06 c07 H1a
 have F7:=H6.out.sees
 simp only [sees,ac,aa,Nat.reduceAdd] at F7
 obtain ⟨zp,⟨z0,c00,c01,c02,c03,c04,c05,c06,c07,-⟩,-⟩:=F7
 rw [HE.out]
 go_wp2_with fail
 refine (bF w1 _ pb en _ ts _ _ H6.out).mono ?_
 rintro e wa8 ⟨rfl,hd9⟩
 clear zp z0 c00 c01 c02 c03 c04 c05 c06 c07
 have H9:=Lib.hid hd9
 clear hd9 H6
 have F10:=H9.out.sees
 simp only [sees,ac,aa,Nat.reduceAdd] at F10
 obtain ⟨zp,⟨z0,c00,c01,c02,c03,c04,c05,c06,c07,-⟩,-⟩:=F10
 go_wp2_with fail
 refine (jH w1 _ pb en ts _ 9 _ H9.out KH9.out).mono ?_
 rintro e wz ⟨rfl,hb⟩
 have HZ:=Lib.hid hb
 clear hb
 go_wp2_with fail
 exact ⟨rfl,rfl,HZ.out⟩
