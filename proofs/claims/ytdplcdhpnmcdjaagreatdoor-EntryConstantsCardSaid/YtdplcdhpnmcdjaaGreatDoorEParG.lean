/- The parser's formula and argument. -/
import Derived.Test.YtdplcdhpnmcdjaaGreatDoorEParF
import Derived.Test.YtdplcdhpnmcdjaaGreatDoorETg
namespace Go.Proofs.YtdplcdhpnmcdjaaGreatDoor
set_option maxRecDepth 100000
set_option maxHeartbeats 2000000
open Go.RowKit Go.Proofs.Tryz
theorem lh {f:Nat} (h:∀ g,g≤f→Con g) {k:Nat} (h1:1≤k) (h4:k≤4) {w1:World} {ps:List aS} {pb en:Nat} {ts:List Tk} {r:Rs} {ns:List Nd} {w:World} (hr:ap en f (.lv k) ts=some r) (hn:ns.length+ts.length≤1000) (hs:St w1 ps pb en ts ns w) :
  Calls prog 108 #[.pointer (some ⟨pb,0,none⟩),.int .i64 (k:Nat)] w (fh w1 ps pb en (cB ns r)) :=
 h f (Nat.le_refl _) w1 ps pb en (.lv k) ts r ns w hr hn hs h1 h4
theorem eA (w1:World) (ps:List aS) (pb en:Nat) (r:Rs) (w:World) (h:Calls prog 108 #[.pointer (some ⟨pb,0,none⟩),.int .i64 ((1:Nat):Int)] w (fh w1 ps pb en r)) :
  Calls prog 63 #[.pointer (some ⟨pb,0,none⟩)] w (fh w1 ps pb en r):=by
 have HC:=keep h
 clear h
 go_enter func63,ntmps63
 go_wp2_with fail
 refine HC.out.mono ?_
 intro e w' hp
 cases r with
 | bad a c =>
  obtain ⟨rfl,hz⟩:=hp
  have HZ:=Lib.hid hz
  clear hz
  go_wp2_with fail
  exact ⟨rfl,rfl,HZ.out⟩
 | ok ts ns n =>
  obtain ⟨rfl,hz⟩:=hp
  have HZ:=Lib.hid hz
  clear hz
  go_wp2_with fail
  first
   | go_end0
   | refine bodyPost_ret (results_none rfl _ _ _) rfl ?_
  exact ⟨rfl,HZ.out⟩
def ng (e f fn i:Nat) (ts:List Tk):Option Rs:=if (hdS e ts).kind≠6 then ap e f (.lv 1) ts else if cE fn i then some (.ok (ts.drop 1) [cj (hdS e ts).r] 0) else some (.bad (hdS e ts).at_ 4)
theorem xx {fn i:Nat} (h:cE fn i=true):pA fn i=0:=by
 unfold cE at h
 split at h
 ·cases h
 rename_i hn
 exact if_neg hn
theorem jF (f fn i:Nat) (IH:∀ g,g≤f→Con g) (hf1:1≤fn) (hf2:fn≤50) (w1:World) (ps:List aS) (pb en:Nat) (ts:List Tk) (r:Rs) (ns:List Nd) (w:World) (hr:ng en f fn i ts=some r) (hn:ns.length+ts.length≤1000) (h:St w1 ps pb en ts ns w) :
  Calls prog 246 #[.pointer (some ⟨pb,0,none⟩),.int .u8 (fn:Nat),.int .i64 (i:Nat)] w (fh w1 ps pb en (cB ns r)):=by
 unfold ng at hr
 have H:=Lib.hid h
 clear h
 by_cases h6:(hdS en ts).kind=6
 ·rw [if_neg (by simpa using h6)] at hr
  cases ts with
  | nil=>exact absurd h6 (by simp [hdS])
  | cons t ts =>
   obtain ⟨tk,tn,tt,⟨t1,t2,t3,t4⟩,ta⟩:=t
   have hk6:tk=6:=h6
   subst hk6
   clear h6
   simp only [hdS,List.drop_succ_cons,List.drop_zero] at hr
   simp only [List.length_cons] at hn
   cases hw:cE fn i
   ·rw [if_neg (by rw [hw]; decide)] at hr
    simp only [Option.some.injEq] at hr
    subst hr
    have HWI:=keep hw
    clear hw
    go_enter func246,ntmps246
    go_wp2_with fail
    refine cMg (aX w1 _ pb en _ ns _ H.out) (fun _=>H.out.below) fun wa1 H3=>?_
    clear H
    simp only [hdS,tkA]
    go_upto_region 1 with fail
    have H4:=Lib.hid (H3.out.alloc 97 [.int .u8 ((6:Nat):Int),.int .i64 tn,.string ⟨tt.toArray⟩,.int .i64 t1,.int .i64 t2,.int .i64 t3,.int .i64 t4,.int .i64 ta])
    clear H3
    have H4a:Hid (St w1 (ac wa1.heap.size 97 [.int .u8 ((6:Nat):Int),.int .i64 tn,.string ⟨tt.toArray⟩,.int .i64 t1,.int .i64 t2,.int .i64 t3,.int .i64 t4,.int .i64 ta]::ps) pb en (⟨6,tn,tt,⟨t1,t2,t3,t4⟩,ta⟩::ts) ns (wa1.alloc (.cells #[.int .u8 ((6:Nat):Int),.int .i64 tn,.string ⟨tt.toArray⟩,.int .i64 t1,.int .i64 t2,.int .i64 t3,.int .i64 t4,.int .i64 ta] 97))):=H4
    clear H4
    generalize (wa1.alloc (.cells #[.int .u8 ((6:Nat):Int),.int .i64 tn,.string ⟨tt.toArray⟩,.int .i64 t1,.int .i64 t2,.int .i64 t3,.int .i64 t4,.int .i64 ta] 97))=Wa5 at H4a ⊢
    have F6:=H4a.out.sees
    simp only [sees,ac,aa,Nat.reduceAdd] at F6
    obtain ⟨zp,⟨z0,c00,c01,c02,c03,c04,c05,c06,c07,-⟩,-⟩:=F6
    go_wp2_with fail
    refine (iC fn i _ hf1 hf2).mono ?_
    rintro e wa7 ⟨rfl,hw8⟩
    obtain rfl:Wa5=wa7:=hw8.symm
    rw [HWI.out]
    go_wp2_with fail
    refine (dO w1 pb _ _ _ H4a.out.bel).mono ?_
    rintro e wz ⟨rfl,hb⟩
    have HZ:=Lib.hid hb
    clear hb
    go_wp2_with fail
    exact ⟨rfl,rfl,HZ.out⟩
   rw [if_pos hw] at hr
   simp only [Option.some.injEq] at hr
   subst hr
   have HWE:=keep (xx hw)
   have HWI:=keep hw
   clear hw
   go_enter func246,ntmps246
   go_wp2_with fail
   refine cMg (aX w1 _ pb en _ ns _ H.out) (fun _=>H.out.below) fun wa1 H3=>?_
   clear H
   simp only [hdS,tkA]
   go_upto_region 1 with fail
   have H4:=Lib.hid (H3.out.alloc 97 [.int .u8 ((6:Nat):Int),.int .i64 tn,.string ⟨tt.toArray⟩,.int .i64 t1,.int .i64 t2,.int .i64 t3,.int .i64 t4,.int .i64 ta])
   clear H3
   have H4a:Hid (St w1 (ac wa1.heap.size 97 [.int .u8 ((6:Nat):Int),.int .i64 tn,.string ⟨tt.toArray⟩,.int .i64 t1,.int .i64 t2,.int .i64 t3,.int .i64 t4,.int .i64 ta]::ps) pb en (⟨6,tn,tt,⟨t1,t2,t3,t4⟩,ta⟩::ts) ns (wa1.alloc (.cells #[.int .u8 ((6:Nat):Int),.int .i64 tn,.string ⟨tt.toArray⟩,.int .i64 t1,.int .i64 t2,.int .i64 t3,.int .i64 t4,.int .i64 ta] 97))):=H4
   clear H4
   generalize (wa1.alloc (.cells #[.int .u8 ((6:Nat):Int),.int .i64 tn,.string ⟨tt.toArray⟩,.int .i64 t1,.int .i64 t2,.int .i64 t3,.int .i64 t4,.int .i64 ta] 97))=Wa5 at H4a ⊢
   have F6:=H4a.out.sees
   simp only [sees,ac,aa,Nat.reduceAdd] at F6
   obtain ⟨zp,⟨z0,c00,c01,c02,c03,c04,c05,c06,c07,-⟩,-⟩:=F6
   go_wp2_with fail
   refine (iC fn i _ hf1 hf2).mono ?_
   rintro e wa7 ⟨rfl,hw8⟩
   obtain rfl:Wa5=wa7:=hw8.symm
   rw [HWI.out,HWE.out]
   go_wp2_with fail
   refine (bF w1 _ pb en _ ts _ _ H4a.out).mono ?_
   rintro e wa9 ⟨rfl,hd9⟩
   clear zp z0 c00 c01 c02 c03 c04 c05 c06 c07
   have H10:=Lib.hid hd9
   clear hd9 H4a
   have F11:=H10.out.sees
   simp only [sees,ac,aa,Nat.reduceAdd] at F11
   obtain ⟨zp,⟨z0,c00,c01,c02,c03,c04,c05,c06,c07,-⟩,-⟩:=F11
   go_wp2_with fail
   refine (fB w1 _ pb en ts _ (cj ⟨t1,t2,t3,t4⟩) _ (by omega) H10.out).mono ?_
   rintro e wa12 ⟨rfl,hd9⟩
   clear zp z0 c00 c01 c02 c03 c04 c05 c06 c07
   have H13:=Lib.hid hd9
   clear hd9 H10
   have F14:=H13.out.sees
   simp only [sees,ac,aa,Nat.reduceAdd] at F14
   obtain ⟨zp,⟨z0,c00,c01,c02,c03,c04,c05,c06,c07,-⟩,-⟩:=F14
   go_wp2_with fail
   first
    | go_end0
    | refine bodyPost_ret (results_none rfl _ _ _) rfl ?_
   exact ⟨rfl,H13.out.tail⟩
 rw [if_pos (by simpa using h6)] at hr
 have HC:=keep (fun ps w hs=>eA w1 ps pb en _ w (lh IH (k:=1) (Nat.le_refl _) (by omega) (w1:=w1) (ps:=ps) (pb:=pb) (w:=w) hr hn hs))
 clear IH
 have HH:=keep (fun wv h=>aX w1 ps pb en ts ns wv h)
 obtain ⟨⟨tk,tn,tt,⟨t1,t2,t3,t4⟩,ta⟩,ht⟩:∃ t,hdS en ts=t:=⟨_,rfl⟩
 rw [ht] at HH h6
 have h6b:((tk:Int) != 6)=true:=by simp only [] at h6; simp; omega
 clear ht h6
 go_enter func246,ntmps246
 go_wp2_with fail
 refine cMg (HH.out _ H.out) (fun _=>H.out.below) fun wa1 H3=>?_
 clear H
 clear HH
 simp only [tkA]
 go_upto_region 1 with fail
 have H4:=Lib.hid (H3.out.alloc 97 [.int .u8 tk,.int .i64 tn,.string ⟨tt.toArray⟩,.int .i64 t1,.int .i64 t2,.int .i64 t3,.int .i64 t4,.int .i64 ta])
 clear H3
 have H4a:Hid (St w1 (ac wa1.heap.size 97 [.int .u8 tk,.int .i64 tn,.string ⟨tt.toArray⟩,.int .i64 t1,.int .i64 t2,.int .i64 t3,.int .i64 t4,.int .i64 ta]::ps) pb en ts ns (wa1.alloc (.cells #[.int .u8 tk,.int .i64 tn,.string ⟨tt.toArray⟩,.int .i64 t1,.int .i64 t2,.int .i64 t3,.int .i64 t4,.int .i64 ta] 97))):=H4
 clear H4
 generalize (wa1.alloc (.cells #[.int .u8 tk,.int .i64 tn,.string ⟨tt.toArray⟩,.int .i64 t1,.int .i64 t2,.int .i64 t3,.int .i64 t4,.int .i64 ta] 97))=Wa5 at H4a ⊢
 have F6:=H4a.out.sees
 simp only [sees,ac,aa,Nat.reduceAdd] at F6
 obtain ⟨zp,⟨z0,c00,c01,c02,c03,c04,c05,c06,c07,-⟩,-⟩:=F6
 go_wp2_with fail
 clear hr
 refine (HC.out _ _ H4a.out).mono ?_
 intro e w9 hp
 clear HC
 cases r with
 | bad a c =>
  obtain ⟨rfl,hz⟩:=hp
  have HZ:=Lib.hid hz
  clear hz
  go_wp2_with fail
  exact ⟨rfl,rfl,HZ.out⟩
 | ok ts9 ns9 n9 =>
  obtain ⟨rfl,hz⟩:=hp
  have HZ:=Lib.hid hz
  clear hz
  go_wp2_with fail
  first
   | go_end0
   | refine bodyPost_ret (results_none rfl _ _ _) rfl ?_
  exact ⟨rfl,HZ.out.tail⟩
