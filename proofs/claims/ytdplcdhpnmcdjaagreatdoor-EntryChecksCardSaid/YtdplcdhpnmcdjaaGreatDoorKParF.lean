/- The parser's percent and level. -/
import Derived.Test.YtdplcdhpnmcdjaaGreatDoorKR8A
import Derived.Test.YtdplcdhpnmcdjaaGreatDoorKTg
namespace Go.Proofs.YtdplcdhpnmcdjaaGreatDoor
set_option maxRecDepth 100000
set_option maxHeartbeats 4000000
open Go.RowKit Go.Proofs.Tryz
theorem vd {ts:List Tk} (h:bO ts 13=true):cr ts=((cr (ts.drop 1)).1,(cr (ts.drop 1)).2+1):=by
 cases ts with
 | nil=>simp [bO] at h
 | cons t ts =>
  rw [cr,if_pos (by simpa [bO] using h)]
  rfl
theorem xa {ts:List Tk} (h:bO ts 13=false):cr ts=(ts,0):=by
 cases ts with
 | nil=>rfl
 | cons t ts=>rw [cr,if_neg (by simpa [bO] using h)]
def Pct (ts1:List Tk) (ns:List Nd) (tsc:List Tk) (nsc:List Nd):Prop:=cr ts1=((cr tsc).1,(cr tsc).2+(nsc.length - ns.length))∧ns.length≤nsc.length∧nsc=ns++List.replicate (nsc.length - ns.length) dt∧nsc.length+tsc.length=ns.length+ts1.length
theorem Pct.step {ts1 tsc:List Tk} {ns nsc:List Nd} {t:Tk} (h:Pct ts1 ns (t::tsc) nsc) (ho:bO (t::tsc) 13=true):Pct ts1 ns tsc (nsc++[dt]):=by
 obtain ⟨h1,h2,h3,h4⟩:=h
 rw [vd ho] at h1
 simp only [List.drop_succ_cons,List.drop_zero] at h1
 refine ⟨?_,by simp; omega,?_,by simp at h4 ⊢; omega⟩
 ·rw [h1]
  simp; omega
 rw [List.length_append,List.length_singleton,show nsc.length+1 - ns.length=(nsc.length - ns.length)+1 by omega,List.replicate_succ',← List.append_assoc,← h3]
theorem Pct.done {ts1 tsc:List Tk} {ns nsc:List Nd} (h:Pct ts1 ns tsc nsc) (ho:bO tsc 13=false):tsc=(cr ts1).1∧nsc=ns++List.replicate (cr ts1).2 dt:=by
 obtain ⟨h1,h2,h3,h4⟩:=h
 rw [xa ho] at h1
 rw [h1]
 exact ⟨rfl,by rw [Nat.zero_add]; exact h3⟩
theorem qk (f:Nat) (IH:∀ g,g≤f→Con g) (w1:World) (ps:List aS) (pb en:Nat) (ts:List Tk) (r:Rs) (ns:List Nd) (w:World) (hr:ap en (f+1) .pc ts=some r) (hn:ns.length+ts.length≤1000) (h:St w1 ps pb en ts ns w) :
  Calls prog 201 #[.pointer (some ⟨pb,0,none⟩)] w (fh w1 ps pb en (cB ns r)):=by
 rw [ap] at hr
 have HIH:=keep IH
 clear IH
 have H:=Lib.hid h
 clear h
 rcases ce hr with ⟨a,c,h1,rfl⟩ | ⟨ts1,ns1,n1,q,h1,h2,rfl⟩
 ·have HC:=keep (HIH.out f (Nat.le_refl _) w1 ps pb en .pr ts _ ns · h1 hn)
  clear hr h1
  go_enter func201,ntmps201
  go_wp2_with fail
  refine (HC.out _ H.out).mono ?_
  rintro e wz ⟨rfl,hb⟩
  have HZ:=Lib.hid hb
  clear hb
  go_wp2_with fail
  exact ⟨rfl,rfl,HZ.out⟩
 have hl1:=aE _ _ _ _ _ _ h1
 have HC:=keep (HIH.out f (Nat.le_refl _) w1 ps pb en .pr ts _ ns · h1 hn)
 clear hr h1
 simp only [Option.some.injEq] at h2
 subst h2
 go_enter func201,ntmps201
 go_wp2_with fail
 refine (HC.out _ H.out).mono ?_
 rintro e wa1 ⟨rfl,hd9⟩
 have H2:=Lib.hid hd9
 clear hd9 H
 clear HC
 go_wp2_with fail
 go_loopg [] ts1.length (fun gf wr=>∃ (tsc:List Tk) (nsc:List Nd),gf=tsc.length∧ao (Pct ts1 (ns++ns1) tsc nsc)∧nsc.length+tsc.length≤1000∧Hid (St w1 ps pb en tsc nsc wr))
 case atStart=>exact ⟨ts1,ns++ns1,rfl,keep ⟨by simp,Nat.le_refl _,by simp,rfl⟩,by simp; omega,H2⟩
 case round =>
  clear H2
  obtain ⟨tsc,nsc,hg,HP,hlc,HR⟩:=hrel
  obtain ⟨wp,rfl⟩:∃ wp:World,wp=wr:=⟨_,rfl⟩
  subst hg
  cases ho:bO tsc 13
  ·have HO:=keep ho
   have hend:=Pct.done HP.out ho
   have HE:=keep hend
   clear ho hend
   go_wp2_with fail
   refine cMg (jG w1 _ pb en tsc _ _ _ HR.out) (fun _=>HR.out.below) fun wa3 H5=>?_
   rw [HO.out]
   clear HR
   go_wp2_with fail
   first
    | go_end0
    | refine bodyPost_ret (results_none rfl _ _ _) rfl ?_
   exact ⟨rfl,by rw [← HE.out.1,← List.append_assoc,← HE.out.2]; exact H5.out⟩
  have HO:=keep ho
  clear ho
  cases tsc with
  | nil=>exact absurd HO.out (by simp [bO])
  | cons t tsc =>
   simp only [List.length_cons] at hlc
   have HS:=keep (Pct.step HP.out HO.out)
   go_wp2_with fail
   refine cMg (jG w1 _ pb en (t::tsc) _ _ _ HR.out) (fun _=>HR.out.below) fun wa3 H5=>?_
   rw [HO.out]
   clear HR
   go_wp2_with fail
   refine (bF w1 _ pb en _ tsc _ _ H5.out).mono ?_
   rintro e wa6 ⟨rfl,hd9⟩
   have H7:=Lib.hid hd9
   clear hd9 H5
   go_wp2_with fail
   refine (fB w1 _ pb en tsc _ dt _ (by omega) H7.out).mono ?_
   rintro e wa8 ⟨rfl,hd9⟩
   have H9:=Lib.hid hd9
   clear hd9 H7
   go_wp2_with fail
   go_roundg tsc.length
   case rel=>exact ⟨tsc,nsc++[dt],rfl,HS,by simp; omega,H9⟩
   case measure=>simp
theorem fW (w1:World) (ps:List aS) (pb en:Nat) (b c k:Nat) (r:Rs) (_ts:List Tk) (_ns:List Nd) (w:World) (hk:k≤3) (hb:w.cell? ⟨b,0,none⟩=some (.pointer (some ⟨pb,0,none⟩))) (hc:w.cell? ⟨c,0,none⟩=some (.int .i64 (k:Nat)))
  (hC:Calls prog 108 #[.pointer (some ⟨pb,0,none⟩),.int .i64 ((k+1:Nat):Int)] w (fh w1 ps pb en r)) :
  Calls prog 167 #[.pointer (some ⟨b,0,none⟩),.pointer (some ⟨c,0,none⟩)] w (fh w1 ps pb en r):=by
 have e:((k+1:Nat):Int)=(k:Int)+1:=by omega
 rw [e] at hC
 clear e
 have HC:=keep hC
 clear hC
 go_enter func167,ntmps167
 go_wp2_with fail
 refine HC.out.mono ?_
 intro e w' hp
 cases r with
 | bad a c =>
  obtain ⟨rfl,hz⟩:=hp
  have HZ:=Lib.hid hz
  clear hz
  go_wp2_with fail
  exact ⟨rfl,rfl,HZ.out⟩
 | ok ts ns n =>
  obtain ⟨rfl,hz⟩:=hp
  have HZ:=Lib.hid hz
  clear hz
  go_wp2_with fail
  first
   | go_end0
   | refine bodyPost_ret (results_none rfl _ _ _) rfl ?_
  exact ⟨rfl,HZ.out⟩
theorem va (f k:Nat) (IH:∀ g,g≤f→Con g) (hk1:1≤k) (hk4:k≤4) (w1:World) (ps:List aS) (pb en:Nat) (ts:List Tk) (r:Rs) (ns:List Nd) (w:World) (hr:ap en (f+1) (.lv k) ts=some r) (hn:ns.length+ts.length≤1000) (h:St w1 ps pb en ts ns w) :
  Calls prog 108 #[.pointer (some ⟨pb,0,none⟩),.int .i64 (k:Nat)] w (fh w1 ps pb en (cB ns r)):=by
 rw [ap,if_neg (by omega)] at hr
 have H:=Lib.hid h
 clear h
 have hmf:∀ (fn:Fn) (first cap:Array Value) (w:World),(Instr.makeFunc fn first cap).run prog w=.ok (.func fn first cap) w:=fun _ _ _ _=>rfl
 have hlow:∀ (ps:List aS) (ts:List Tk) (g:Nat) (q:Rs) (ns:List Nd) (w:World),g≤f→ap en g (.lv (k+1)) ts=some q→ns.length+ts.length≤1000→St w1 ps pb en ts ns w →
   (k≤3→Calls prog 108 #[.pointer (some ⟨pb,0,none⟩),.int .i64 ((k+1:Nat):Int)] w (fh w1 ps pb en (cB ns q))) ∧
   (k=4→Calls prog 166 #[.pointer (some ⟨pb,0,none⟩)] w (fh w1 ps pb en (cB ns q))):=by
  intro ps ts g q ns w hg hq hn hs
  refine ⟨fun hk3=>IH g hg w1 ps pb en (.lv (k+1)) ts q ns w hq hn hs (by omega) (by omega),fun hk => ?_⟩
  subst hk
  cases g with
  | zero=>simp [ap] at hq
  | succ g =>
   rw [ap,if_pos (by omega)] at hq
   exact IH g (by omega) w1 ps pb en .sg ts q ns w hq hn hs
 have HL:=keep hlow
 clear hlow IH
 go_enter func108,ntmps108
 go_upto_region 1 with fail
 have H1:Hid (St w1 (ac (w.heap.size+1) 3 [.int .i64 (k:Nat)]::ac (w.heap.size) 93 [.pointer (some ⟨pb,0,none⟩)]::ps) pb en ts ns ((w.alloc (.cells #[.pointer (some ⟨pb,0,none⟩)] 93)).alloc (.cells #[.int .i64 (k:Nat)] 3))):=by
  have h9:=(H.out.alloc 93 [.pointer (some ⟨pb,0,none⟩)]).alloc 3 [.int .i64 (k:Nat)]
  rw [World.size_alloc] at h9
  exact h9
 clear H
 generalize ((w.alloc (.cells #[.pointer (some ⟨pb,0,none⟩)] 93)).alloc (.cells #[.int .i64 (k:Nat)] 3))=Wa2 at H1 ⊢
 rcases (show k≤3∨k=4 by omega) with hk3 | hk3
 ·have hki:(k:Int)<4:=by omega
  have F3:=H1.out.sees
  simp only [sees,ac,aa] at F3
  obtain ⟨zp,⟨z0,c00,-⟩,⟨z1,c10,-⟩,-⟩:=F3
  go_wp2_with fail
  clear hmf hki
  rcases ce hr with ⟨a,c,h1,rfl⟩ | ⟨ts1,ns1,n1,q,h1,h2,rfl⟩
  ·have HC:=keep (HL.out (ac (w.heap.size+1) 3 [.int .i64 (k:Nat)]::ac (w.heap.size) 93 [.pointer (some ⟨pb,0,none⟩)]::ps) ts f _ ns · (Nat.le_refl _) h1 hn)
   clear hr h1
   refine ((fW w1 (ac (w.heap.size+1) 3 [.int .i64 (k:Nat)]::ac (w.heap.size) 93 [.pointer (some ⟨pb,0,none⟩)]::ps) pb en (w.heap.size) (w.heap.size+1) k _ ts ns _ hk3 (by assumption) (by assumption) ((HC.out _ H1.out).1 hk3))).mono ?_
   rintro e wz ⟨rfl,hb⟩
   have HZ:=Lib.hid hb
   clear hb
   go_wp2_with fail
   exact ⟨rfl,rfl,HZ.out⟩
  have hl1:=aE _ _ _ _ _ _ h1
  have HC:=keep (HL.out (ac (w.heap.size+1) 3 [.int .i64 (k:Nat)]::ac (w.heap.size) 93 [.pointer (some ⟨pb,0,none⟩)]::ps) ts f _ ns · (Nat.le_refl _) h1 hn)
  clear hr h1
  refine ((fW w1 (ac (w.heap.size+1) 3 [.int .i64 (k:Nat)]::ac (w.heap.size) 93 [.pointer (some ⟨pb,0,none⟩)]::ps) pb en (w.heap.size) (w.heap.size+1) k _ ts ns _ hk3 (by assumption) (by assumption) ((HC.out _ H1.out).1 hk3))).mono ?_
  rintro e wa4 ⟨rfl,hd9⟩
  clear zp z0 c00 z1 c10
  have H5:=Lib.hid hd9
  clear hd9 H1
  clear HC
  go_wp2_with fail
  have H2:=keep h2
  clear h2
  go_loopg [] ts1.length (fun gf wr=>∃ (tsc:List Tk) (nsc:List Nd) (g:Nat) (qc:Rs),gf=tsc.length∧ao (g≤f∧ap en g (.ops k) tsc=some qc∧cB nsc qc=cB (ns++ns1) q)∧nsc.length+tsc.length≤1000∧Hid (St w1 (ac (w.heap.size+1) 3 [.int .i64 (k:Nat)]::ac (w.heap.size) 93 [.pointer (some ⟨pb,0,none⟩)]::ps) pb en tsc nsc wr))
  case atStart=>exact ⟨ts1,ns++ns1,f,q,rfl,keep ⟨Nat.le_refl _,H2.out,rfl⟩,by simp; omega,H5⟩
  case round =>
   clear H5 H2
   obtain ⟨tsc,nsc,g,qc,hg,HQ,hlc,HR⟩:=hrel
   obtain ⟨wp,rfl⟩:∃ wp:World,wp=wr:=⟨_,rfl⟩
   subst hg
   obtain ⟨hgf,hq,hadd⟩:=HQ.out
   obtain ⟨g0,rfl⟩:=vI hq
   rw [ef]
   rw [← hadd]
   rcases kK hq with ⟨hend,rfl⟩ | ⟨t,ts2,rfl,hk8,hbk,hrest⟩
   ·clear HQ hq hadd
    have HH:=keep (fun wv h=>aX w1 (ac (w.heap.size+1) 3 [.int .i64 (k:Nat)]::ac (w.heap.size) 93 [.pointer (some ⟨pb,0,none⟩)]::ps) pb en tsc nsc wv h)
    obtain ⟨⟨tk,tn,tt,⟨t1,t2,t3,t4⟩,ta⟩,ht⟩:∃ t,hdS en tsc=t:=⟨_,rfl⟩
    rw [ht] at HH hend
    clear ht
    simp only [] at hend
    have HP:=keep (show cB nsc (.ok tsc [] 0)=.ok tsc nsc 0 by simp [cB])
    have F6:=HR.out.sees
    simp only [sees,ac,aa] at F6
    obtain ⟨zp,⟨z0,c00,-⟩,⟨z1,c10,-⟩,-⟩:=F6
    go_wp2_with fail
    refine cMg (HH.out _ HR.out) (fun _=>HR.out.below) fun wa7 H9=>?_
    clear zp z0 c00 z1 c10 HR
    clear HH
    simp only [tkA]
    go_upto_region 6 with fail
    have H10:=Lib.hid (H9.out.alloc 97 [.int .u8 tk,.int .i64 tn,.string ⟨tt.toArray⟩,.int .i64 t1,.int .i64 t2,.int .i64 t3,.int .i64 t4,.int .i64 ta])
    clear H9
    have H10a:Hid (St w1 (ac wa7.heap.size 97 [.int .u8 tk,.int .i64 tn,.string ⟨tt.toArray⟩,.int .i64 t1,.int .i64 t2,.int .i64 t3,.int .i64 t4,.int .i64 ta]::(ac (w.heap.size+1) 3 [.int .i64 (k:Nat)]::ac (w.heap.size) 93 [.pointer (some ⟨pb,0,none⟩)]::ps)) pb en tsc nsc (wa7.alloc (.cells #[.int .u8 tk,.int .i64 tn,.string ⟨tt.toArray⟩,.int .i64 t1,.int .i64 t2,.int .i64 t3,.int .i64 t4,.int .i64 ta] 97))):=H10
    clear H10
    generalize (wa7.alloc (.cells #[.int .u8 tk,.int .i64 tn,.string ⟨tt.toArray⟩,.int .i64 t1,.int .i64 t2,.int .i64 t3,.int .i64 t4,.int .i64 ta] 97))=Wa11 at H10a ⊢
    have F12:=H10a.out.sees
    simp only [sees,ac,aa,Nat.reduceAdd] at F12
    obtain ⟨zp,⟨z0,c00,c01,c02,c03,c04,c05,c06,c07,-⟩,⟨z1,c10,-⟩,⟨z2,c20,-⟩,-⟩:=F12
    by_cases h8:tk=8
    ·subst h8
     have hb9:aT tn≠k:=by rcases hend with h | h; exact absurd rfl h; exact h
     have hbb:(((aT tn:Nat):Int) != (k:Int))=true:=by simp; omega
     clear hend hb9
     go_wp2_with fail
     refine (cO tn _).mono ?_
     rintro e wa13 ⟨rfl,hw14⟩
     obtain rfl:Wa11=wa13:=hw14.symm
     go_wp2_with fail
     first
      | go_end0
      | refine bodyPost_ret (results_none rfl _ _ _) rfl ?_
     rw [HP.out]
     exact ⟨rfl,H10a.out.tail.tail.tail⟩
    have h8b:((tk:Int) != 8)=true:=by simp; omega
    clear hend h8
    go_wp2_with fail
    first
     | go_end0
     | refine bodyPost_ret (results_none rfl _ _ _) rfl ?_
    rw [HP.out]
    exact ⟨rfl,H10a.out.tail.tail.tail⟩
   clear HQ hq
   obtain ⟨tk,tn,tt,⟨t1,t2,t3,t4⟩,ta⟩:=t
   simp only [] at hk8 hbk hrest
   subst hk8
   simp only [List.length_cons] at hlc
   have HADD:=keep hadd
   clear hadd
   have hbb:(((aT tn:Nat):Int) != (k:Int))=false:=by rw [hbk]; simp
   rcases hrest with ⟨a,c,h3,rfl⟩ | ⟨ts3,ns3,n3,q3,h3,h4,rfl⟩
   ·have HC:=keep (fun ps w hs=>HL.out ps ts2 g0 _ nsc w (by omega) h3 (by omega) hs)
    clear h3
    have F6:=HR.out.sees
    simp only [sees,ac,aa] at F6
    obtain ⟨zp,⟨z0,c00,-⟩,⟨z1,c10,-⟩,-⟩:=F6
    go_wp2_with fail
    refine cMg (aX w1 _ pb en _ nsc _ HR.out) (fun _=>HR.out.below) fun wa7 H9=>?_
    clear zp z0 c00 z1 c10 HR
    simp only [hdS,tkA]
    go_upto_region 6 with fail
    have H10:=Lib.hid (H9.out.alloc 97 [.int .u8 ((8:Nat):Int),.int .i64 tn,.string ⟨tt.toArray⟩,.int .i64 t1,.int .i64 t2,.int .i64 t3,.int .i64 t4,.int .i64 ta])
    clear H9
    have H10a:Hid (St w1 (ac wa7.heap.size 97 [.int .u8 ((8:Nat):Int),.int .i64 tn,.string ⟨tt.toArray⟩,.int .i64 t1,.int .i64 t2,.int .i64 t3,.int .i64 t4,.int .i64 ta]::(ac (w.heap.size+1) 3 [.int .i64 (k:Nat)]::ac (w.heap.size) 93 [.pointer (some ⟨pb,0,none⟩)]::ps)) pb en (⟨8,tn,tt,⟨t1,t2,t3,t4⟩,ta⟩::ts2) nsc (wa7.alloc (.cells #[.int .u8 ((8:Nat):Int),.int .i64 tn,.string ⟨tt.toArray⟩,.int .i64 t1,.int .i64 t2,.int .i64 t3,.int .i64 t4,.int .i64 ta] 97))):=H10
    clear H10
    generalize (wa7.alloc (.cells #[.int .u8 ((8:Nat):Int),.int .i64 tn,.string ⟨tt.toArray⟩,.int .i64 t1,.int .i64 t2,.int .i64 t3,.int .i64 t4,.int .i64 ta] 97))=Wa11 at H10a ⊢
    have F12:=H10a.out.sees
    simp only [sees,ac,aa,Nat.reduceAdd] at F12
    obtain ⟨zp,⟨z0,c00,c01,c02,c03,c04,c05,c06,c07,-⟩,⟨z1,c10,-⟩,⟨z2,c20,-⟩,-⟩:=F12
    go_wp2_with fail
    refine (cO tn _).mono ?_
    rintro e wa13 ⟨rfl,hw14⟩
    obtain rfl:Wa11=wa13:=hw14.symm
    go_wp2_with fail
    refine (bF w1 _ pb en _ ts2 _ _ H10a.out).mono ?_
    rintro e wa15 ⟨rfl,hd9⟩
    clear zp z0 c00 c01 c02 c03 c04 c05 c06 c07 z1 c10 z2 c20
    have H16:=Lib.hid hd9
    clear hd9 H10a
    have F17:=H16.out.sees
    simp only [sees,ac,aa,Nat.reduceAdd] at F17
    obtain ⟨zp,⟨z0,c00,c01,c02,c03,c04,c05,c06,c07,-⟩,⟨z1,c10,-⟩,⟨z2,c20,-⟩,-⟩:=F17
    go_wp2_with fail
    refine ((fW w1 _ pb en (w.heap.size) (w.heap.size+1) k _ ts2 nsc _ hk3 (by assumption) (by assumption) ((HC.out _ _ H16.out).1 hk3))).mono ?_
    rintro e wz ⟨rfl,hb⟩
    have HZ:=Lib.hid hb
    clear hb
    go_wp2_with fail
    exact ⟨rfl,rfl,HZ.out⟩
   have hl3:=aE _ _ _ _ _ _ h3
   have HC:=keep (fun ps w hs=>HL.out ps ts2 g0 _ nsc w (by omega) h3 (by omega) hs)
   have H4:=keep h4
   clear h3 h4
   have F6:=HR.out.sees
   simp only [sees,ac,aa] at F6
   obtain ⟨zp,⟨z0,c00,-⟩,⟨z1,c10,-⟩,-⟩:=F6
   go_wp2_with fail
   refine cMg (aX w1 _ pb en _ nsc _ HR.out) (fun _=>HR.out.below) fun wa7 H9=>?_
   clear zp z0 c00 z1 c10 HR
   simp only [hdS,tkA]
   go_upto_region 6 with fail
   have H10:=Lib.hid (H9.out.alloc 97 [.int .u8 ((8:Nat):Int),.int .i64 tn,.string ⟨tt.toArray⟩,.int .i64 t1,.int .i64 t2,.int .i64 t3,.int .i64 t4,.int .i64 ta])
   clear H9
   have H10a:Hid (St w1 (ac wa7.heap.size 97 [.int .u8 ((8:Nat):Int),.int .i64 tn,.string ⟨tt.toArray⟩,.int .i64 t1,.int .i64 t2,.int .i64 t3,.int .i64 t4,.int .i64 ta]::(ac (w.heap.size+1) 3 [.int .i64 (k:Nat)]::ac (w.heap.size) 93 [.pointer (some ⟨pb,0,none⟩)]::ps)) pb en (⟨8,tn,tt,⟨t1,t2,t3,t4⟩,ta⟩::ts2) nsc (wa7.alloc (.cells #[.int .u8 ((8:Nat):Int),.int .i64 tn,.string ⟨tt.toArray⟩,.int .i64 t1,.int .i64 t2,.int .i64 t3,.int .i64 t4,.int .i64 ta] 97))):=H10
   clear H10
   generalize (wa7.alloc (.cells #[.int .u8 ((8:Nat):Int),.int .i64 tn,.string ⟨tt.toArray⟩,.int .i64 t1,.int .i64 t2,.int .i64 t3,.int .i64 t4,.int .i64 ta] 97))=Wa11 at H10a ⊢
   have F12:=H10a.out.sees
   simp only [sees,ac,aa,Nat.reduceAdd] at F12
   obtain ⟨zp,⟨z0,c00,c01,c02,c03,c04,c05,c06,c07,-⟩,⟨z1,c10,-⟩,⟨z2,c20,-⟩,-⟩:=F12
   go_wp2_with fail
   refine (cO tn _).mono ?_
   rintro e wa13 ⟨rfl,hw14⟩
   obtain rfl:Wa11=wa13:=hw14.symm
   go_wp2_with fail
   refine (bF w1 _ pb en _ ts2 _ _ H10a.out).mono ?_
   rintro e wa15 ⟨rfl,hd9⟩
   clear zp z0 c00 c01 c02 c03 c04 c05 c06 c07 z1 c10 z2 c20
   have H16:=Lib.hid hd9
   clear hd9 H10a
   have F17:=H16.out.sees
   simp only [sees,ac,aa,Nat.reduceAdd] at F17
   obtain ⟨zp,⟨z0,c00,c01,c02,c03,c04,c05,c06,c07,-⟩,⟨z1,c10,-⟩,⟨z2,c20,-⟩,-⟩:=F17
   go_wp2_with fail
   refine ((fW w1 _ pb en (w.heap.size) (w.heap.size+1) k _ ts2 nsc _ hk3 (by assumption) (by assumption) ((HC.out _ _ H16.out).1 hk3))).mono ?_
   rintro e wa18 ⟨rfl,hd9⟩
   clear zp z0 c00 c01 c02 c03 c04 c05 c06 c07 z1 c10 z2 c20
   have H19:=Lib.hid hd9
   clear hd9 H16
   have F20:=H19.out.sees
   simp only [sees,ac,aa,Nat.reduceAdd] at F20
   obtain ⟨zp,⟨z0,c00,c01,c02,c03,c04,c05,c06,c07,-⟩,⟨z1,c10,-⟩,⟨z2,c20,-⟩,-⟩:=F20
   clear HC
   go_wp2_with fail
   refine (fB w1 _ pb en ts3 _ (cN tn) _ (by simp; omega) H19.out).mono ?_
   rintro e wa21 ⟨rfl,hd9⟩
   clear zp z0 c00 c01 c02 c03 c04 c05 c06 c07 z1 c10 z2 c20
   have H22:=Lib.hid hd9
   clear hd9 H19
   have F23:=H22.out.sees
   simp only [sees,ac,aa,Nat.reduceAdd] at F23
   obtain ⟨zp,⟨z0,c00,c01,c02,c03,c04,c05,c06,c07,-⟩,⟨z1,c10,-⟩,⟨z2,c20,-⟩,-⟩:=F23
   go_wp2_with fail
   go_roundg ts3.length
   case rel=>exact ⟨ts3,nsc++ns3++[cN tn],g0,q3,rfl,keep ⟨by omega,H4.out,by rw [← HADD.out,ef,List.append_assoc]⟩,by simp; omega,H22.out.tail⟩
   case measure=>simp; omega
 have hki:¬ ((k:Int)<4):=by omega
 have F3:=H1.out.sees
 simp only [sees,ac,aa] at F3
 obtain ⟨zp,⟨z0,c00,-⟩,⟨z1,c10,-⟩,-⟩:=F3
 go_wp2_with fail
 clear hmf hki
 rcases ce hr with ⟨a,c,h1,rfl⟩ | ⟨ts1,ns1,n1,q,h1,h2,rfl⟩
 ·have HC:=keep (HL.out (ac (w.heap.size+1) 3 [.int .i64 (k:Nat)]::ac (w.heap.size) 93 [.pointer (some ⟨pb,0,none⟩)]::ps) ts f _ ns · (Nat.le_refl _) h1 hn)
  clear hr h1
  refine (((HC.out _ H1.out).2 hk3)).mono ?_
  rintro e wz ⟨rfl,hb⟩
  have HZ:=Lib.hid hb
  clear hb
  go_wp2_with fail
  exact ⟨rfl,rfl,HZ.out⟩
 have hl1:=aE _ _ _ _ _ _ h1
 have HC:=keep (HL.out (ac (w.heap.size+1) 3 [.int .i64 (k:Nat)]::ac (w.heap.size) 93 [.pointer (some ⟨pb,0,none⟩)]::ps) ts f _ ns · (Nat.le_refl _) h1 hn)
 clear hr h1
 refine (((HC.out _ H1.out).2 hk3)).mono ?_
 rintro e wa4 ⟨rfl,hd9⟩
 clear zp z0 c00 z1 c10
 have H5:=Lib.hid hd9
 clear hd9 H1
 clear HC
 go_wp2_with fail
 have H2:=keep h2
 clear h2
 go_loopg [] ts1.length (fun gf wr=>∃ (tsc:List Tk) (nsc:List Nd) (g:Nat) (qc:Rs),gf=tsc.length∧ao (g≤f∧ap en g (.ops k) tsc=some qc∧cB nsc qc=cB (ns++ns1) q)∧nsc.length+tsc.length≤1000∧Hid (St w1 (ac (w.heap.size+1) 3 [.int .i64 (k:Nat)]::ac (w.heap.size) 93 [.pointer (some ⟨pb,0,none⟩)]::ps) pb en tsc nsc wr))
 case atStart=>exact ⟨ts1,ns++ns1,f,q,rfl,keep ⟨Nat.le_refl _,H2.out,rfl⟩,by simp; omega,H5⟩
 case round =>
  clear H5 H2
  obtain ⟨tsc,nsc,g,qc,hg,HQ,hlc,HR⟩:=hrel
  obtain ⟨wp,rfl⟩:∃ wp:World,wp=wr:=⟨_,rfl⟩
  subst hg
  obtain ⟨hgf,hq,hadd⟩:=HQ.out
  obtain ⟨g0,rfl⟩:=vI hq
  rw [ef]
  rw [← hadd]
  rcases kK hq with ⟨hend,rfl⟩ | ⟨t,ts2,rfl,hk8,hbk,hrest⟩
  ·clear HQ hq hadd
   have HH:=keep (fun wv h=>aX w1 (ac (w.heap.size+1) 3 [.int .i64 (k:Nat)]::ac (w.heap.size) 93 [.pointer (some ⟨pb,0,none⟩)]::ps) pb en tsc nsc wv h)
   obtain ⟨⟨tk,tn,tt,⟨t1,t2,t3,t4⟩,ta⟩,ht⟩:∃ t,hdS en tsc=t:=⟨_,rfl⟩
   rw [ht] at HH hend
   clear ht
   simp only [] at hend
   have HP:=keep (show cB nsc (.ok tsc [] 0)=.ok tsc nsc 0 by simp [cB])
   have F6:=HR.out.sees
   simp only [sees,ac,aa] at F6
   obtain ⟨zp,⟨z0,c00,-⟩,⟨z1,c10,-⟩,-⟩:=F6
   go_wp2_with fail
   refine cMg (HH.out _ HR.out) (fun _=>HR.out.below) fun wa7 H9=>?_
   clear zp z0 c00 z1 c10 HR
   clear HH
   simp only [tkA]
   go_upto_region 6 with fail
   have H10:=Lib.hid (H9.out.alloc 97 [.int .u8 tk,.int .i64 tn,.string ⟨tt.toArray⟩,.int .i64 t1,.int .i64 t2,.int .i64 t3,.int .i64 t4,.int .i64 ta])
   clear H9
   have H10a:Hid (St w1 (ac wa7.heap.size 97 [.int .u8 tk,.int .i64 tn,.string ⟨tt.toArray⟩,.int .i64 t1,.int .i64 t2,.int .i64 t3,.int .i64 t4,.int .i64 ta]::(ac (w.heap.size+1) 3 [.int .i64 (k:Nat)]::ac (w.heap.size) 93 [.pointer (some ⟨pb,0,none⟩)]::ps)) pb en tsc nsc (wa7.alloc (.cells #[.int .u8 tk,.int .i64 tn,.string ⟨tt.toArray⟩,.int .i64 t1,.int .i64 t2,.int .i64 t3,.int .i64 t4,.int .i64 ta] 97))):=H10
   clear H10
   generalize (wa7.alloc (.cells #[.int .u8 tk,.int .i64 tn,.string ⟨tt.toArray⟩,.int .i64 t1,.int .i64 t2,.int .i64 t3,.int .i64 t4,.int .i64 ta] 97))=Wa11 at H10a ⊢
   have F12:=H10a.out.sees
   simp only [sees,ac,aa,Nat.reduceAdd] at F12
   obtain ⟨zp,⟨z0,c00,c01,c02,c03,c04,c05,c06,c07,-⟩,⟨z1,c10,-⟩,⟨z2,c20,-⟩,-⟩:=F12
   by_cases h8:tk=8
   ·subst h8
    have hb9:aT tn≠k:=by rcases hend with h | h; exact absurd rfl h; exact h
    have hbb:(((aT tn:Nat):Int) != (k:Int))=true:=by simp; omega
    clear hend hb9
    go_wp2_with fail
    refine (cO tn _).mono ?_
    rintro e wa13 ⟨rfl,hw14⟩
    obtain rfl:Wa11=wa13:=hw14.symm
    go_wp2_with fail
    first
     | go_end0
     | refine bodyPost_ret (results_none rfl _ _ _) rfl ?_
    rw [HP.out]
    exact ⟨rfl,H10a.out.tail.tail.tail⟩
   have h8b:((tk:Int) != 8)=true:=by simp; omega
   clear hend h8
   go_wp2_with fail
   first
    | go_end0
    | refine bodyPost_ret (results_none rfl _ _ _) rfl ?_
   rw [HP.out]
   exact ⟨rfl,H10a.out.tail.tail.tail⟩
  clear HQ hq
  obtain ⟨tk,tn,tt,⟨t1,t2,t3,t4⟩,ta⟩:=t
  simp only [] at hk8 hbk hrest
  subst hk8
  simp only [List.length_cons] at hlc
  have HADD:=keep hadd
  clear hadd
  have hbb:(((aT tn:Nat):Int) != (k:Int))=false:=by rw [hbk]; simp
  rcases hrest with ⟨a,c,h3,rfl⟩ | ⟨ts3,ns3,n3,q3,h3,h4,rfl⟩
  ·have HC:=keep (fun ps w hs=>HL.out ps ts2 g0 _ nsc w (by omega) h3 (by omega) hs)
   clear h3
   have F6:=HR.out.sees
   simp only [sees,ac,aa] at F6
   obtain ⟨zp,⟨z0,c00,-⟩,⟨z1,c10,-⟩,-⟩:=F6
   go_wp2_with fail
   refine cMg (aX w1 _ pb en _ nsc _ HR.out) (fun _=>HR.out.below) fun wa7 H9=>?_
   clear zp z0 c00 z1 c10 HR
   simp only [hdS,tkA]
   go_upto_region 6 with fail
   have H10:=Lib.hid (H9.out.alloc 97 [.int .u8 ((8:Nat):Int),.int .i64 tn,.string ⟨tt.toArray⟩,.int .i64 t1,.int .i64 t2,.int .i64 t3,.int .i64 t4,.int .i64 ta])
   clear H9
   have H10a:Hid (St w1 (ac wa7.heap.size 97 [.int .u8 ((8:Nat):Int),.int .i64 tn,.string ⟨tt.toArray⟩,.int .i64 t1,.int .i64 t2,.int .i64 t3,.int .i64 t4,.int .i64 ta]::(ac (w.heap.size+1) 3 [.int .i64 (k:Nat)]::ac (w.heap.size) 93 [.pointer (some ⟨pb,0,none⟩)]::ps)) pb en (⟨8,tn,tt,⟨t1,t2,t3,t4⟩,ta⟩::ts2) nsc (wa7.alloc (.cells #[.int .u8 ((8:Nat):Int),.int .i64 tn,.string ⟨tt.toArray⟩,.int .i64 t1,.int .i64 t2,.int .i64 t3,.int .i64 t4,.int .i64 ta] 97))):=H10
   clear H10
   generalize (wa7.alloc (.cells #[.int .u8 ((8:Nat):Int),.int .i64 tn,.string ⟨tt.toArray⟩,.int .i64 t1,.int .i64 t2,.int .i64 t3,.int .i64 t4,.int .i64 ta] 97))=Wa11 at H10a ⊢
   have F12:=H10a.out.sees
   simp only [sees,ac,aa,Nat.reduceAdd] at F12
   obtain ⟨zp,⟨z0,c00,c01,c02,c03,c04,c05,c06,c07,-⟩,⟨z1,c10,-⟩,⟨z2,c20,-⟩,-⟩:=F12
   go_wp2_with fail
   refine (cO tn _).mono ?_
   rintro e wa13 ⟨rfl,hw14⟩
   obtain rfl:Wa11=wa13:=hw14.symm
   go_wp2_with fail
   refine (bF w1 _ pb en _ ts2 _ _ H10a.out).mono ?_
   rintro e wa15 ⟨rfl,hd9⟩
   clear zp z0 c00 c01 c02 c03 c04 c05 c06 c07 z1 c10 z2 c20
   have H16:=Lib.hid hd9
   clear hd9 H10a
   have F17:=H16.out.sees
   simp only [sees,ac,aa,Nat.reduceAdd] at F17
   obtain ⟨zp,⟨z0,c00,c01,c02,c03,c04,c05,c06,c07,-⟩,⟨z1,c10,-⟩,⟨z2,c20,-⟩,-⟩:=F17
   go_wp2_with fail
   refine (((HC.out _ _ H16.out).2 hk3)).mono ?_
   rintro e wz ⟨rfl,hb⟩
   have HZ:=Lib.hid hb
   clear hb
   go_wp2_with fail
   exact ⟨rfl,rfl,HZ.out⟩
  have hl3:=aE _ _ _ _ _ _ h3
  have HC:=keep (fun ps w hs=>HL.out ps ts2 g0 _ nsc w (by omega) h3 (by omega) hs)
  have H4:=keep h4
  clear h3 h4
  have F6:=HR.out.sees
  simp only [sees,ac,aa] at F6
  obtain ⟨zp,⟨z0,c00,-⟩,⟨z1,c10,-⟩,-⟩:=F6
  go_wp2_with fail
  refine cMg (aX w1 _ pb en _ nsc _ HR.out) (fun _=>HR.out.below) fun wa7 H9=>?_
  clear zp z0 c00 z1 c10 HR
  simp only [hdS,tkA]
  go_upto_region 6 with fail
  have H10:=Lib.hid (H9.out.alloc 97 [.int .u8 ((8:Nat):Int),.int .i64 tn,.string ⟨tt.toArray⟩,.int .i64 t1,.int .i64 t2,.int .i64 t3,.int .i64 t4,.int .i64 ta])
  clear H9
  have H10a:Hid (St w1 (ac wa7.heap.size 97 [.int .u8 ((8:Nat):Int),.int .i64 tn,.string ⟨tt.toArray⟩,.int .i64 t1,.int .i64 t2,.int .i64 t3,.int .i64 t4,.int .i64 ta]::(ac (w.heap.size+1) 3 [.int .i64 (k:Nat)]::ac (w.heap.size) 93 [.pointer (some ⟨pb,0,none⟩)]::ps)) pb en (⟨8,tn,tt,⟨t1,t2,t3,t4⟩,ta⟩::ts2) nsc (wa7.alloc (.cells #[.int .u8 ((8:Nat):Int),.int .i64 tn,.string ⟨tt.toArray⟩,.int .i64 t1,.int .i64 t2,.int .i64 t3,.int .i64 t4,.int .i64 ta] 97))):=H10
  clear H10
  generalize (wa7.alloc (.cells #[.int .u8 ((8:Nat):Int),.int .i64 tn,.string ⟨tt.toArray⟩,.int .i64 t1,.int .i64 t2,.int .i64 t3,.int .i64 t4,.int .i64 ta] 97))=Wa11 at H10a ⊢
  have F12:=H10a.out.sees
  simp only [sees,ac,aa,Nat.reduceAdd] at F12
  obtain ⟨zp,⟨z0,c00,c01,c02,c03,c04,c05,c06,c07,-⟩,⟨z1,c10,-⟩,⟨z2,c20,-⟩,-⟩:=F12
  go_wp2_with fail
  refine (cO tn _).mono ?_
  rintro e wa13 ⟨rfl,hw14⟩
  obtain rfl:Wa11=wa13:=hw14.symm
  go_wp2_with fail
  refine (bF w1 _ pb en _ ts2 _ _ H10a.out).mono ?_
  rintro e wa15 ⟨rfl,hd9⟩
  clear zp z0 c00 c01 c02 c03 c04 c05 c06 c07 z1 c10 z2 c20
  have H16:=Lib.hid hd9
  clear hd9 H10a
  have F17:=H16.out.sees
  simp only [sees,ac,aa,Nat.reduceAdd] at F17
  obtain ⟨zp,⟨z0,c00,c01,c02,c03,c04,c05,c06,c07,-⟩,⟨z1,c10,-⟩,⟨z2,c20,-⟩,-⟩:=F17
  go_wp2_with fail
  refine (((HC.out _ _ H16.out).2 hk3)).mono ?_
  rintro e wa18 ⟨rfl,hd9⟩
  clear zp z0 c00 c01 c02 c03 c04 c05 c06 c07 z1 c10 z2 c20
  have H19:=Lib.hid hd9
  clear hd9 H16
  have F20:=H19.out.sees
  simp only [sees,ac,aa,Nat.reduceAdd] at F20
  obtain ⟨zp,⟨z0,c00,c01,c02,c03,c04,c05,c06,c07,-⟩,⟨z1,c10,-⟩,⟨z2,c20,-⟩,-⟩:=F20
  clear HC
  go_wp2_with fail
  refine (fB w1 _ pb en ts3 _ (cN tn) _ (by simp; omega) H19.out).mono ?_
  rintro e wa21 ⟨rfl,hd9⟩
  clear zp z0 c00 c01 c02 c03 c04 c05 c06 c07 z1 c10 z2 c20
  have H22:=Lib.hid hd9
  clear hd9 H19
  have F23:=H22.out.sees
  simp only [sees,ac,aa,Nat.reduceAdd] at F23
  obtain ⟨zp,⟨z0,c00,c01,c02,c03,c04,c05,c06,c07,-⟩,⟨z1,c10,-⟩,⟨z2,c20,-⟩,-⟩:=F23
  go_wp2_with fail
  go_roundg ts3.length
  case rel=>exact ⟨ts3,nsc++ns3++[cN tn],g0,q3,rfl,keep ⟨by omega,H4.out,by rw [← HADD.out,ef,List.append_assoc]⟩,by simp; omega,H22.out.tail⟩
  case measure=>simp; omega
