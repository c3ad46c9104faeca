/- The reference: the input of a value (louvreref11.Constant). EntryConstants: the walk. -/
import Derived.Test.YtdplcdhpnmcdjaaGreatDoorECrD
import Derived.Test.YtdplcdhpnmcdjaaGreatDoorETg
import Derived.Test.YtdplcdhpnmcdjaaGreatDoorEEvb
import Derived.Test.YtdplcdhpnmcdjaaGreatDoorEVgv
import Derived.Test.YtdplcdhpnmcdjaaGreatDoorEParP
namespace Go.Proofs.YtdplcdhpnmcdjaaGreatDoor
set_option maxRecDepth 100000
set_option maxHeartbeats 8000000
open Go.RowKit Go.Proofs.Tryz
attribute [local go_sem high] ju
theorem oe (k:Nat) (n:Int) (s:ByteArray) (hs:s.size≤4611686018427387904) (h1 : -9223372036854775808≤n) (h2:n≤9223372036854775807) (hc:cellV k n s.data.toList) (w:World) :
  Calls prog 42 #[.agg #[.int .u8 (k:Nat),.int .i64 n,.string s]] w fun e w'=>e=.returned (.string ⟨(cu k n s.data.toList).toArray⟩)∧Below w.heap.size w w':=by
 have nil:s.data.toList=[]→s=⟨#[]⟩:=by
  intro e
  apply Classical.byContradiction
  intro h
  exact (dB h).1 e
 rcases hc with ⟨rfl,rfl,ht⟩ | ⟨rfl,ht,h5⟩ | ⟨rfl,ht,h5⟩ | ⟨rfl,rfl,h5⟩ | ⟨rfl,ht,h5,h6⟩
 ·obtain rfl:=nil ht
  exact od w
 ·obtain rfl:=nil ht
  exact oh n ⟨by omega,h2⟩ w
 ·obtain rfl:=nil ht
  exact og n h5 w
 ·exact jS s hs h5 w
 obtain rfl:=nil ht
 have h:n=1∨n=2∨n=3∨n=4∨n=5∨n=6:=by omega
 rcases h with rfl | rfl | rfl | rfl | rfl | rfl <;> exact qx _ w
theorem jN (k:Nat) (n:Int) (s:ByteArray) (hs:s.size≤4611686018427387904) (h1 : -9223372036854775808≤n) (h2:n≤9223372036854775807) (w:World) :
  Calls prog 19 #[.agg #[.int .u8 (k:Nat),.int .i64 n,.string s]] w fun e w'=>e=.returned (.tuple #[.string ⟨(cp k n s.data.toList).1.toArray⟩,.int .i64 (cp k n s.data.toList).2])∧Below w.heap.size w w':=by
 have HS:=keep hs
 obtain ⟨V,hV⟩:=ex (cp k n s.data.toList)
 have HV:=keep hV
 rw [hV]
 clear hV
 have HCK:=keep (fun W=>bK k n s HS.out h1 W)
 have HF6:=keep (fun W=>gC 6 (by decide) (by decide) W)
 by_cases hc:cellV k n s.data.toList
 rotate_left
 ·have HE:=keep (aQ hc)
  have HR:=keep (HV.out.symm.trans (i7 (.inl (by rw [HE.out]; decide))))
  clear hc h1 h2 hs
  have H1:=Lib.hid ((Ok.start w).alloc w.heap.size 35 [.int .u8 (k:Nat),.int .i64 n,.string s] rfl)
  go_enter func19,ntmps19
  go_upto_region 1 with fail
  generalize (w.alloc (.cells #[.int .u8 (k:Nat),.int .i64 n,.string s] 35))=W2 at H1 ⊢
  refine wp_region_held_drew (S:=fun W=>Ok w [ac (w.heap.size) 35 [.int .u8 (k:Nat),.int .i64 n,.string s]] W) (by kernel_rfl) H1.out.drew (fun hHeld => ?_)
  refine wt3 0 ?_
  refine wal 1 fun K hK => ?_
  go_simp
  refine (HCK.out _).mono ?_
  rintro e w4 ⟨rfl,hb5⟩
  rw [HE.out]
  go_wp2_with fail
  refine hK.out _ _ (hHeld.below hb5) (fun hHeld => ?_)
  clear hK K
  refine wn ?_
  refine wt3 2 ?_
  refine wt3 3 ?_
  refine wsk 4 ?_
  refine wsk 5 ?_
  refine wsk 6 ?_
  refine wt3 7 ?_
  refine wpAnyH_done (by kernel_rfl) ?_ _
  clear H1
  have H6:=Lib.hid hHeld
  clear hHeld
  have F7:=sE H6
  go_wp2_with fail
  exact bodyPost_ret (v:=.tuple #[.string ⟨#[]⟩,.int .i64 2]) (by simp [results,results19,go_sem]) rfl ⟨by rw [HR.out],H6.out.bel⟩
 have HE:=keep (aF hc)
 have HSH:=keep (fun W=>oe k n s HS.out h1 h2 hc W)
 by_cases h6:eq3 (k:Nat) n 4 6 s.toList []=true
 ·have HR:=keep (HV.out.symm.trans (i7 (.inr (by
   obtain ⟨e1,e2,-⟩:=(dW _ _ _ _ _ _).1 h6
   exact ⟨by omega,e2⟩))))
  clear hc h1 h2 hs
  have H1:=Lib.hid ((Ok.start w).alloc w.heap.size 35 [.int .u8 (k:Nat),.int .i64 n,.string s] rfl)
  go_enter func19,ntmps19
  go_upto_region 1 with fail
  generalize (w.alloc (.cells #[.int .u8 (k:Nat),.int .i64 n,.string s] 35))=W2 at H1 ⊢
  refine wp_region_held_drew (S:=fun W=>Ok w [ac (w.heap.size) 35 [.int .u8 (k:Nat),.int .i64 n,.string s]] W) (by kernel_rfl) H1.out.drew (fun hHeld => ?_)
  refine wt3 0 ?_
  refine wal 1 fun K hK => ?_
  go_simp
  refine (HCK.out _).mono ?_
  rintro e w4 ⟨rfl,hb5⟩
  rw [HE.out]
  go_wp2_with fail
  refine hK.out _ _ (hHeld.below hb5) (fun hHeld => ?_)
  clear hK K
  refine wn ?_
  refine wt3 2 ?_
  refine wt3 3 ?_
  refine wt3 4 ?_
  refine wal 5 fun K hK => ?_
  go_simp
  refine (HF6.out _).mono ?_
  rintro e w6 ⟨rfl,hb7⟩
  go_wp2_with fail
  refine hK.out _ _ (hHeld.below hb7) (fun hHeld => ?_)
  clear hK K
  refine wn ?_
  refine wt3 6 ?_
  refine wt3 7 ?_
  refine wpAnyH_done (by kernel_rfl) ?_ _
  clear H1
  have H8:=Lib.hid hHeld
  clear hHeld
  have F9:=sE H8
  go_wp2_with fail
  exact bodyPost_ret (v:=.tuple #[.string ⟨#[]⟩,.int .i64 2]) (by simp [results,results19,go_sem]) rfl ⟨by rw [HR.out],H8.out.bel⟩
 have h6:eq3 (k:Nat) n 4 6 s.toList []=false:=by simpa using h6
 have HN6:=keep (show ¬ (k=4∧n=6) from by
  rintro ⟨rfl,rfl⟩
  rcases hc with ⟨h,-⟩ | ⟨h,-⟩ | ⟨h,-⟩ | ⟨h,-⟩ | ⟨-,ht,-⟩
  ·cases h
  ·cases h
  ·cases h
  ·cases h
  have:eq3 ((4:Nat):Int) 6 4 6 s.toList []=true:=(dW _ _ _ _ _ _).2 ⟨rfl,rfl,by rw [toL]; exact ht⟩
  rw [h6] at this
  cases this)
 by_cases k3:k=3
 rotate_left
 ·have HR:=keep (HV.out.symm.trans (q7 k3 h1 h2 hc HN6.out))
  have hk:((k:Int) != 3)=true:=by simp; omega
  obtain ⟨T,hT⟩:∃ T:ByteArray,⟨(cu k n s.data.toList).toArray⟩=T:=⟨_,rfl⟩
  rw [hT] at HSH
  have HT:=keep hT
  clear hc h1 h2 hs hT k3
  have H1:=Lib.hid ((Ok.start w).alloc w.heap.size 35 [.int .u8 (k:Nat),.int .i64 n,.string s] rfl)
  go_enter func19,ntmps19
  go_upto_region 1 with fail
  generalize (w.alloc (.cells #[.int .u8 (k:Nat),.int .i64 n,.string s] 35))=W2 at H1 ⊢
  refine wp_region_held_drew (S:=fun W=>Ok w [ac (w.heap.size) 35 [.int .u8 (k:Nat),.int .i64 n,.string s]] W) (by kernel_rfl) H1.out.drew (fun hHeld => ?_)
  refine wt3 0 ?_
  refine wal 1 fun K hK => ?_
  go_simp
  refine (HCK.out _).mono ?_
  rintro e w4 ⟨rfl,hb5⟩
  rw [HE.out]
  go_wp2_with fail
  refine hK.out _ _ (hHeld.below hb5) (fun hHeld => ?_)
  clear hK K
  refine wn ?_
  refine wt3 2 ?_
  refine wt3 3 ?_
  refine wt3 4 ?_
  refine wal 5 fun K hK => ?_
  go_simp
  refine (HF6.out _).mono ?_
  rintro e w6 ⟨rfl,hb7⟩
  go_wp2_with fail
  refine hK.out _ _ (hHeld.below hb7) (fun hHeld => ?_)
  clear hK K
  refine wn ?_
  refine wt3 6 ?_
  refine wt3 7 ?_
  refine wpAnyH_done (by kernel_rfl) ?_ _
  clear H1
  have H8:=Lib.hid hHeld
  clear hHeld
  have F9:=sE H8
  go_wp2_with fail
  refine cM (HSH.out _) H8 fun w10 H12=>?_
  clear F9 H8
  have F13:=sE H12
  go_wp2_with fail
  exact bodyPost_ret (v:=.tuple #[.string T,.int .i64 0]) (by simp [results,results19,go_sem]) rfl ⟨by rw [HR.out,← HT.out],H12.out.bel⟩
 subst k3
 obtain ⟨rfl,ht⟩:n=0∧aC s.data.toList=0:=by
  rcases hc with ⟨h,-⟩ | ⟨h,-⟩ | ⟨h,-⟩ | ⟨-,h,ht⟩ | ⟨h,-⟩
  ·cases h
  ·cases h
  ·cases h
  ·exact ⟨h,ht⟩
  cases h
 have HSHs:=keep (show ∀ W,Calls prog 42 #[.agg #[.int .u8 3,.int .i64 0,.string s]] W fun e w'=>e=.returned (.string s)∧Below W.heap.size W w' from fun W=>jS s HS.out ht W)
 have h256:=lg ht
 rw [Array.length_toList] at h256
 have h256:s.size≤256:=h256
 obtain ⟨b,hb⟩:=ex ((decide (s.data.toList=[]) || (decide (s.data.toList.head?=some 61) || !decide (be s.data.toList=(3,0,s.data.toList)))))
 have HCT:=keep (HV.out.symm.trans (q8 ht hb))
 have HCN:=keep (fun W=>jO s HS.out W)
 obtain ⟨R,hR⟩:∃ R:ByteArray,R=if b=true then ⟨#[39]⟩++s else s:=⟨_,rfl⟩
 have HR:=keep hR
 have hRz:R.size≤257:=by
  rw [hR]
  split
  ·rw [ByteArray.size_append]; show 1+s.size≤257; omega
  omega
 have HRL:=keep (show R.data.toList=if b=true then 39::s.data.toList else s.data.toList from by
  rw [hR]
  split
  ·rw [ByteArray.data_append]; simp
  rfl)
 have HB:=keep hb
 have HCK3:=keep (show ∀ W,Calls prog 40 #[.agg #[.int .u8 3,.int .i64 0,.string s]] W fun e w'=>e=.returned (.int .i64 (bm 3 0 s.data.toList))∧Below W.heap.size W w' from fun W=>HCK.out W)
 clear hc h1 h2 hs ht hb hR HSH HCK
 have H1:=Lib.hid ((Ok.start w).alloc w.heap.size 35 [.int .u8 3,.int .i64 0,.string s] rfl)
 go_enter func19,ntmps19
 go_upto_region 1 with fail
 generalize (w.alloc (.cells #[.int .u8 3,.int .i64 0,.string s] 35))=W2 at H1 ⊢
 have h6:eq3 3 0 4 6 s.toList []=false:=h6
 refine wp_region_held_drew (S:=fun W=>Ok w [ac (w.heap.size) 35 [.int .u8 3,.int .i64 0,.string s]] W) (by kernel_rfl) H1.out.drew (fun hHeld => ?_)
 refine wt3 0 ?_
 refine wal 1 fun K hK => ?_
 go_simp
 refine (HCK3.out _).mono ?_
 rintro e w4 ⟨rfl,hb5⟩
 rw [HE.out]
 go_wp2_with fail
 refine hK.out _ _ (hHeld.below hb5) (fun hHeld => ?_)
 clear hK K
 refine wn ?_
 refine wt3 2 ?_
 refine wt3 3 ?_
 refine wt3 4 ?_
 refine wal 5 fun K hK => ?_
 go_simp
 refine (HF6.out _).mono ?_
 rintro e w6 ⟨rfl,hb7⟩
 go_wp2_with fail
 refine hK.out _ _ (hHeld.below hb7) (fun hHeld => ?_)
 clear hK K
 refine wn ?_
 refine wt3 6 ?_
 refine wt3 7 ?_
 refine wpAnyH_done (by kernel_rfl) ?_ _
 clear H1
 have H8:=Lib.hid hHeld
 clear hHeld
 have F9:=sE H8
 go_wp2_with fail
 refine cM (HSHs.out _) H8 fun w10 H12=>?_
 clear F9 H8
 have F13:=sE H12
 go_upto_region 6 with fail
 go_cut [31] (fun v wx=>v=.bool b∧Hid (Ok w [ac (w.heap.size) 35 [.int .u8 3,.int .i64 0,.string s]] wx))
 case first =>
  by_cases he:s.data.toList=[]
  ·have hte:s.toList.isEmpty=true:=by rw [toL,he]; rfl
   have hb:b=true:=by rw [← HB.out,decide_eq_true he]; rfl
   clear he
   refine wp_region_held_drew (S:=fun W=>Ok w [ac (w.heap.size) 35 [.int .u8 3,.int .i64 0,.string s]] W) (by kernel_rfl) H12.out.drew (fun hHeld => ?_)
   refine wt3 0 ?_
   refine wt3 1 ?_
   refine wt3 2 ?_
   refine wsk 3 ?_
   refine wsk 4 ?_
   refine wsk 5 ?_
   refine wt3 6 ?_
   refine wt3 7 ?_
   refine wsk 8 ?_
   refine wsk 9 ?_
   refine wsk 10 ?_
   refine wsk 11 ?_
   refine wt3 12 ?_
   refine wpAnyH_done (by kernel_rfl) ?_ _
   clear F13
   clear H12
   have H15:=Lib.hid hHeld
   clear hHeld
   have F16:=sE H15
   go_wp2_with fail
   go_meet
   exact ⟨by rw [hb],H15⟩
  have hte:s.toList.isEmpty=false:=by
   rw [toL]
   cases h9:s.data.toList with
   | nil=>exact absurd h9 he
   | cons=>rfl
  have h0:0<s.size:=by
   have h9:=List.length_pos_iff.2 he
   rw [Array.length_toList] at h9
   exact h9
  have hsz:(0:Int)<(s.size:Int):=by omega
  have hh : s.data.toList.head? = some (s[0]'h0):=by
   rw [List.head?_eq_getElem?,List.getElem?_eq_getElem (by rw [Array.length_toList]; exact h0)]; rfl
  by_cases h61 : ((s[0]'h0).toNat : Int) = 61
  ·have ht61 : (((s[0]'h0).toNat : Int) == 61) = true:=by rw [h61]; rfl
   have hb:b=true:=by
    have h9 : s[0]'h0 = 61:=UInt8.toNat_inj.1 (by show _ = 61; omega)
    rw [← HB.out,decide_eq_true (by rw [hh,h9]:s.data.toList.head?=some 61)]; simp
   clear he hh h61
   refine wp_region_held_drew (S:=fun W=>Ok w [ac (w.heap.size) 35 [.int .u8 3,.int .i64 0,.string s]] W) (by kernel_rfl) H12.out.drew (fun hHeld => ?_)
   refine wt3 0 ?_
   refine wt3 1 ?_
   refine wt3 2 ?_
   refine wt3 3 ?_
   refine wt3 4 ?_
   refine wt3 5 ?_
   refine wt3 6 ?_
   refine wt3 7 ?_
   refine wsk 8 ?_
   refine wsk 9 ?_
   refine wsk 10 ?_
   refine wsk 11 ?_
   refine wt3 12 ?_
   refine wpAnyH_done (by kernel_rfl) ?_ _
   clear F13
   clear H12
   have H15:=Lib.hid hHeld
   clear hHeld
   have F16:=sE H15
   go_wp2_with fail
   go_meet
   exact ⟨by rw [hb],H15⟩
  have ht61 : (((s[0]'h0).toNat : Int) == 61) = false:=beq_eq_false_iff_ne.2 h61
  have hb1:b=!decide (be s.data.toList=(3,0,s.data.toList)):=by
   rw [← HB.out,decide_eq_false he,decide_eq_false (fun e=>h61 (by rw [hh] at e; rw [Option.some.inj e]; rfl))]; rfl
  clear he hh h61
  obtain ⟨a,m,t,hcs⟩:∃ a m t,be s.data.toList=(a,m,t):=⟨_,_,_,rfl⟩
  rw [hcs] at HCN hb1
  dsimp only at HCN
  obtain ⟨X,hX⟩:∃ X:ByteArray,⟨t.toArray⟩=X:=⟨_,rfl⟩
  rw [hX] at HCN
  have hXt:X.toList=t:=by rw [← hX,toL]
  have hq:eq3 (a:Nat) m 3 0 X.toList s.toList=decide ((a,m,t)=(3,0,s.data.toList)):=by
   rw [Bool.eq_iff_iff,dW,decide_eq_true_eq,hXt,toL]
   constructor
   ·rintro ⟨e1,e2,e3⟩
    have e1:a=3:=by omega
    rw [e1,e2,e3]
   intro e
   have e1:a=3:=congrArg (fun x:Vl=>x.1) e
   have e2:m=0:=congrArg (fun x:Vl=>x.2.1) e
   have e3:t=s.data.toList:=congrArg (fun x:Vl=>x.2.2) e
   exact ⟨by omega,e2,e3⟩
  clear hcs hX hXt
  rw [← hq] at hb1
  cases hbe:eq3 (a:Nat) m 3 0 X.toList s.toList
  ·have hb:b=true:=by rw [hb1,hbe]; rfl
   clear hq hb1
   refine wp_region_held_drew (S:=fun W=>Ok w [ac (w.heap.size) 35 [.int .u8 3,.int .i64 0,.string s]] W) (by kernel_rfl) H12.out.drew (fun hHeld => ?_)
   refine wt3 0 ?_
   refine wt3 1 ?_
   refine wt3 2 ?_
   refine wt3 3 ?_
   refine wt3 4 ?_
   refine wt3 5 ?_
   refine wt3 6 ?_
   refine wt3 7 ?_
   refine wt3 8 ?_
   refine wt3 10 ?_
   refine wal 9 fun K hK => ?_
   go_simp
   refine (HCN.out _).mono ?_
   rintro e w15 ⟨rfl,hb16⟩
   go_wp2_with fail
   refine hK.out _ _ (hHeld.below hb16) (fun hHeld => ?_)
   clear hK K
   refine wn ?_
   refine wt3 11 ?_
   refine wt3 12 ?_
   refine wpAnyH_done (by kernel_rfl) ?_ _
   clear F13
   clear H12
   have H17:=Lib.hid hHeld
   clear hHeld
   have F18:=sE H17
   go_wp2_with fail
   go_meet
   exact ⟨by rw [hb],H17⟩
  have hb:b=false:=by rw [hb1,hbe]; rfl
  clear hq hb1
  refine wp_region_held_drew (S:=fun W=>Ok w [ac (w.heap.size) 35 [.int .u8 3,.int .i64 0,.string s]] W) (by kernel_rfl) H12.out.drew (fun hHeld => ?_)
  refine wt3 0 ?_
  refine wt3 1 ?_
  refine wt3 2 ?_
  refine wt3 3 ?_
  refine wt3 4 ?_
  refine wt3 5 ?_
  refine wt3 6 ?_
  refine wt3 7 ?_
  refine wt3 8 ?_
  refine wt3 10 ?_
  refine wal 9 fun K hK => ?_
  go_simp
  refine (HCN.out _).mono ?_
  rintro e w15 ⟨rfl,hb16⟩
  go_wp2_with fail
  refine hK.out _ _ (hHeld.below hb16) (fun hHeld => ?_)
  clear hK K
  refine wn ?_
  refine wt3 11 ?_
  refine wt3 12 ?_
  refine wpAnyH_done (by kernel_rfl) ?_ _
  clear F13
  clear H12
  have H17:=Lib.hid hHeld
  clear hHeld
  have F18:=sE H17
  go_wp2_with fail
  go_meet
  exact ⟨by rw [hb],H17⟩
 clear F13
 clear H12
 obtain ⟨rfl,HW⟩:=hcut
 have z39:(⟨#[39]⟩:ByteArray).size=1:=rfl
 have F14:=sE HW
 go_upto_if 31 with fail
 go_cut [4] (fun v wx=>v=.string R∧wx=wc)
 case first =>
  cases b
  ·have HRb:=keep (show R=s from by rw [HR.out]; rfl)
   go_wp2_with fail
   go_meet
   exact ⟨by rw [HRb.out],rfl⟩
  have HRb:=keep (show R=⟨#[39]⟩++s from by rw [HR.out]; rfl)
  have hRs:(⟨#[39]⟩++s:ByteArray).size=R.size:=by rw [HRb.out]
  go_wp2_with fail
  go_meet
  exact ⟨by rw [HRb.out],rfl⟩
 obtain ⟨rfl,hwc⟩:=hcut
 subst hwc
 clear F14
 by_cases hl:256<R.size
 ·have hl2:((R.size:Int)>256):=by omega
  have HRS:=keep (show V=([],5) from by
   rw [HCT.out]
   refine if_pos ?_
   rw [← HRL.out,Array.length_toList]
   exact hl)
  clear hl
  have F15:=sE HW
  go_wp2_with fail
  exact bodyPost_ret (v:=.tuple #[.string ⟨#[]⟩,.int .i64 5]) (by simp [results,results19,go_sem]) rfl ⟨by rw [HRS.out],HW.out.bel⟩
 have hl2:¬ ((R.size:Int)>256):=by omega
 have HRS:=keep (show V=(R.data.toList,0) from by
  rw [HCT.out,HRL.out]
  refine if_neg ?_
  rw [← HRL.out,Array.length_toList]
  exact hl)
 clear hl
 have F15:=sE HW
 go_wp2_with fail
 exact bodyPost_ret (v:=.tuple #[.string R,.int .i64 0]) (by simp [results,results19,go_sem]) rfl ⟨by rw [HRS.out],HW.out.bel⟩
set_option maxRecDepth 100000
set_option maxHeartbeats 8000000
theorem gx (k:Nat) (n:Int) (s:ByteArray) (h1 : -9223372036854775808≤n) (h2:n≤9223372036854775807) (w:World) (he:dm w) :
  Calls prog 5 #[.agg #[.int .u8 (k:Nat),.int .i64 n,.string s]] w fun e w'=>e=.returned (.bool true)∧Below w.heap.size w w':=by
 have HE:=keep he
 have HK:=keep (fun W h=>mm W h)
 have HA:=keep (fun (hs:s.size≤4611686018427387904) W h=>fm k n s hs h1 h2 W h)
 have HB:=keep (fun (hs:s.size≤4611686018427387904) W=>jN k n s hs h1 h2 W)
 obtain ⟨P,hP⟩:=ex (cp k n s.data.toList)
 rw [hP] at HA HB
 clear hP h1 h2 he
 obtain ⟨l,e0⟩:=P
 dsimp only at HA HB
 obtain ⟨X,hX⟩:∃ X:ByteArray,⟨l.toArray⟩=X:=⟨_,rfl⟩
 rw [hX] at HA HB
 clear hX
 have H1:=Lib.hid ((Ok.start w).alloc w.heap.size 35 [.int .u8 (k:Nat),.int .i64 n,.string s] rfl)
 go_enter func5,ntmps5
 go_upto_region 1 with fail
 generalize (w.alloc (.cells #[.int .u8 (k:Nat),.int .i64 n,.string s] 35))=W2 at H1 ⊢
 have F3:=sE H1
 by_cases hl:(s.size:Int)>2000
 ·go_wp2_with fail
  refine cM (HK.out _ (HE.out.below H1.out.bel)) H1 fun w4 H6=>?_
  clear F3 H1
  go_wp2_with fail
  go_ret
  exact ⟨rfl,H6.out.bel⟩
 have hs:s.size≤4611686018427387904:=by omega
 go_wp2_with fail
 refine cM (HA.out hs _ (HE.out.below H1.out.bel).1) H1 fun w4 H6=>?_
 clear F3 H1
 have F7:=sE H6
 go_wp2_with fail
 refine cM (HB.out hs _) H6 fun w8 H10=>?_
 clear F7 H6
 have F11:=sE H10
 go_wp2_with fail
 go_ret
 exact ⟨rfl,H10.out.bel⟩
theorem f8 (k:Nat) (n:Int) (s:ByteArray) (w:World) (h1 : -9223372036854775808≤n) (h2:n≤9223372036854775807) (hL:laidMetH prog Rows.entryConstantsRow.laid w) (hS:w.ShapedOpen prog) :
  Calls prog 5 #[.agg #[.int .u8 (k:Nat),.int .i64 n,.string s]] w fun e w'=>e=.returned (.bool true)∧Below w.heap.size w w' :=
 gx k n s h1 h2 w (rr hL hS (by kernel_rfl) (by kernel_rfl))
