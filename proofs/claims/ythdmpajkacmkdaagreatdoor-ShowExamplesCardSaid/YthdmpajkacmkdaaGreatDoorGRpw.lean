/- The reference's Parents. ShowLiterals: the walk. -/
import Derived.Test.YthdmpajkacmkdaaGreatDoorGFew
import Derived.Test.YthdmpajkacmkdaaGreatDoorGTg
import Derived.Test.YthdmpajkacmkdaaGreatDoorGShw
import Derived.Test.YthdmpajkacmkdaaGreatDoorGTxt
import Derived.Test.YthdmpajkacmkdaaGreatDoorGRds
import Derived.Test.YthdmpajkacmkdaaGreatDoorGNdG
import Derived.OpenShut
import Derived.Lib.SmallJoins
import Derived.Test.YthdmpajkacmkdaaGreatDoorGParP
namespace Go.Proofs.YthdmpajkacmkdaaGreatDoor
set_option maxRecDepth 100000
set_option maxHeartbeats 8000000
open Go.RowKit Go.Proofs.Tryz
def kg (l:List Nat):List Int:=l.map fun x:Nat=>(x:Int)
def mB (t:List Nd) (i m:Nat):List Int:=nW (gz t i++[-1]) ((ae t i).take m) i
theorem vJ (t:List Nd) (i m:Nat):(mB t i m).length=i+1:=by unfold mB; rw [l9,List.length_append,eh]; rfl
theorem tJ {t:List Nd} {i m r:Nat} (h:(ae t i)[m]?=some r):(mB t i m).set r (i:Int)=mB t i (m+1):=by
 have hlt:=(List.getElem?_eq_some_iff.1 h).1
 have he:=(List.getElem?_eq_some_iff.1 h).2
 unfold mB nW
 rw [List.take_succ_eq_append_getElem hlt,List.foldl_append,he]
 rfl
theorem vI (t:List Nd) (i m:Nat) (h:(ae t i).length≤m):mB t i m=gz t (i+1):=by
 unfold mB
 rw [List.take_of_length_le h]
 rfl
theorem iQ7 (l:List Int):∀ u∈cC l,u.oneCell'=true:=by
 intro u hu
 unfold cC at hu
 obtain ⟨x,-,rfl⟩:=List.mem_map.1 hu
 rfl
theorem ai.swapR {w0 w:World} {e e':TypeId} {s s' n n':Nat} {v v':Value} {xs xs':List Value} (h:ai w0 [aK w0.heap.size e' s' v' n' xs'] e s v n xs w):ai w0 [aK w0.heap.size e s v n xs] e' s' v' n' xs' w :=
 ⟨⟨h.ok.bel,fun x hx=>by rw [List.mem_singleton] at hx; subst hx; exact h.own⟩,h.ok.get (aK w0.heap.size e' s' v' n' xs') (by simp),fun x hx=>by
  rw [List.mem_singleton] at hx
  subst hx
  have h1:v'.ownBlock=none∨v'.ownBlock≠v.ownBlock:=h.far (aK w0.heap.size e' s' v' n' xs') (by simp)
  show v.ownBlock=none∨v.ownBlock≠v'.ownBlock
  rcases h1 with h1 | h1
  ·by_cases h2:v.ownBlock=none
   ·exact .inl h2
   exact .inr (by rw [h1]; exact h2)
  exact .inr (fun e=>h1 e.symm)⟩
theorem iQ0 (a b:List Int):cC (a++b)=cC a++cC b:=by unfold cC; rw [List.map_append]
theorem iQ9 (l:List Int) (j:Nat) (x:Int):(cC l).set j (.int .i64 x)=cC (l.set j x):=by unfold cC; rw [List.map_set]
theorem m8 (t:List Nd):∀ i,i≤t.length→(ao t i).length≤i
 | 0,_=>by
  have:=(eS t 0).2
  cases h:ao t 0 with
  | nil=>exact Nat.le_refl _
  | cons r l=>have:=this r (by rw [h]; simp); omega
 | i+1,h=>by
  rw [cA (List.getElem?_eq_getElem (show i<t.length by omega)),List.length_append,List.length_take]
  have:=m8 t i (by omega)
  show _+1≤_
  omega
theorem ol {W:World} {B B' n m:Nat} {v s:Value} {xs news:List Value} (hv:W.ownsRow B 3 1 v n xs) (hs:W.ownsRow B' 3 1 s m news) (h1:∀ u∈news,u.oneCell'=true) (hB:B≤W.heap.size) (hn:n+m≤4194304) :
  ∃ v' w',(Builtin.append_ #[50,50] 50 #[v,s]).run prog W=.ok v' w'∧w'.ownsRow B 3 1 v' (n+m) (xs++news)∧W.grownBy w' v.ownBlock∧(v'.ownBlock=none∨v'.ownBlock=v.ownBlock∨v'.ownBlock=some W.heap.size):=by
 obtain ⟨i0,hi0,hz0,hz1,hzb⟩:=info_parts ix
 have hc:=@World.ownsRow.cells _ _ _ _ _ _ _ hs
 have hlen:=hs.1
 rcases hs.2 with ⟨rfl,rfl⟩ | ⟨g,cap,cur,rfl,_⟩
 ·obtain rfl:news=[]:=List.eq_nil_of_length_eq_zero (by simpa using hlen)
  refine ⟨v,W,run_append_owned_none (P:=prog) (w:=W) B 50 50 3 i0 1 underlying50 hi0 v n xs hv,by rw [List.append_nil]; exact hv,⟨rfl,rfl,rfl,Nat.le_refl _,fun _ _ _=>rfl⟩,.inr (.inl rfl)⟩
 obtain ⟨v',w',hr,ho,hg,_,hat⟩:=run_append_own_at (P:=prog) W B 50 50 3 i0 _ 1 8 underlying50 hi0 hz0 hz1 hzb rfl (by omega) v n xs hv ⟨g,0,none⟩ m cap news hlen (hc rfl) h1 (by unfold maxLen; omega) (by omega) hB
 exact ⟨v',w',hr,ho,hg,.inr hat⟩
theorem nU (t:List Nd) (ta:Option Addr) (tc:Nat) (w:World) (ht:ax w ta 11 (t.map bj)) (htl:t.length≤1000) (hkids:∀ k n,t[k]?=some n→am n≤(ao t k).length) :
  Calls prog 24 #[.slice ta t.length tc] w fun e w'=>∃ v,e=.returned v∧w'.ownsRow w.heap.size 3 1 v t.length (cC (gz t t.length))∧Below w.heap.size w w':=by
 obtain ⟨j0,ji,jz0,jz1,jz2⟩:=info_parts ix
 have HT:=keep ht
 have HK:=keep hkids
 obtain ⟨n,hn⟩:=ex (t.length)
 rw [hn] at htl ⊢
 have HN:=keep hn
 clear ht hkids hn
 have H0:=Lib.hid (ai.start ((Ok.start w).add (aK w.heap.size 3 1 (.slice none 0 0) 0 []) (World.ownsRow_nil _ _ _ _)) 3 1)
 go_enter func24,ntmps24
 go_wp2_with fail
 go_loopw [3,4,5] (fun ov rv iv wr=>∃ i:Nat,i≤n∧iv=.int .i64 (i:Int)∧Hid (ai w [aK w.heap.size 3 1 rv (ao t i).length (cC (kg (ao t i)))] 3 1 ov i (cC (gz t i)) wr)) (fun _ _ iv _=>n - (intOf iv).toNat)
 case atStart=>exact ⟨0,Nat.zero_le _,rfl,H0⟩
 case round =>
  clear H0
  obtain ⟨i,hi,rfl,HR⟩:=hrel
  obtain ⟨wp,rfl⟩:∃ wp:World,wp=wr:=⟨_,rfl⟩
  obtain ⟨ov,rfl⟩:∃ ov:Value,ov=u3:=⟨_,rfl⟩
  obtain ⟨rv,rfl⟩:∃ rv:Value,rv=u4:=⟨_,rfl⟩
  by_cases hlt:(i:Int)<(n:Int)
  ·have hil:i<t.length:=by rw [HN.out]; omega
   obtain ⟨x,hx⟩:=ex (t[i])
   have hxs:t[i]?=some x:=by rw [List.getElem?_eq_getElem hil,hx]
   obtain ⟨b1,o1,ha,hB,hc⟩:=fj HT.out (i:=i) (r:=bj x) (by rw [List.getElem?_map,hxs]; rfl)
   subst ha
   have hbl:=HK.out i x hxs
   have HKE:=keep (db hxs)
   have HRS:=keep (cA hxs)
   have hrl:∀ r∈ao t i,r<i:=(eS t i).2
   have HRL:=keep hrl
   obtain ⟨R,hR⟩:=ex ((ao t i).length)
   have HRR:=keep hR
   rw [hR] at HR hbl
   obtain ⟨d,hd⟩:=ex (am x)
   rw [hd] at hbl
   have HD:=keep hd
   have hR1:R≤1000:=by
    have:=m8 t i (by omega)
    omega
   clear hx hrl hR hd
   have hro:=HR.out.ok.get (aK w.heap.size 3 1 rv R (cC (kg (ao t i)))) (by simp)
   obtain ⟨ar,cr,hrv⟩:=aQ hro
   subst hrv
   clear hro
   have H1:=Lib.hid (HR.out.alloc_obj (.cells #[.int .i64 (-1)] 3))
   go_upto_region 6 with (at_builtin; refine wpList_append_lies _ rfl _ _ _ rfl w.heap.size 3 j0 _ 1 8 underlying50 ji jz0 jz1 jz2 rfl (by omega) _ _ _ rfl H1.out.own ⟨wp.heap.size,0,none⟩ 1 1 [.int .i64 (-1)] rfl rfl (World.news_of_block (cs:=#[.int .i64 (-1)]) (t:=3) (fr:=(0,0)) (heap_alloc_new _ _)) (by intro u hu; simp at hu; rcases hu with rfl; rfl) (by omega) (by unfold maxLen; omega) (by omega) (by have:=HR.out.ok.bel.size; simp; omega) _ rfl ?_; intro g5 cap5 w5 hown5 hgrow5 hat5 hlt5)
   have H5:=Lib.hid (H1.out.appended hown5 hgrow5 hat5)
   clear H1 HR hown5 hgrow5 hat5
   have hfc:=ee H5.out.ok.bel hB hc
   clear hc hB
   obtain ⟨xk,xvk,xvn,xvt,⟨x1,x2,x3,x4⟩,xop,xfn,xn⟩:=x
   simp only [bj,ag,Nat.add_zero,Nat.reduceAdd] at hfc
   obtain ⟨z0,c0,c1,c2,c3,c4,c5,c6,c7,c8,c9,c10,-⟩:=hfc
   obtain ⟨fr,hfr⟩:∃ fr,R=fr+d:=⟨R - d,by omega⟩
   have hsub:(R:Int) - (d:Int)=(fr:Int):=by omega
   go_wp2_with fail
   refine (eR ⟨xk,xvk,xvn,xvt,⟨x1,x2,x3,x4⟩,xop,xfn,xn⟩ _).mono ?_
   rintro e w6 ⟨rfl,hb⟩
   rw [HD.out]
   clear z0 c0 c1 c2 c3 c4 c5 c6 c7 c8 c9 c10
   have H6:=Lib.hid (H5.out.below hb)
   clear H5 hb
   go_wp2_with fail
   have HPK:=keep (show mB t i 0=gz t i++[-1] from rfl)
   go_loopw [7] (fun kv wq=>∃ m:Nat,m≤d∧kv=.int .i64 ((fr+m:Nat):Int)∧Hid (ai w [aK w.heap.size 3 1 (.slice ar R cr) R (cC (kg (ao t i)))] 3 1 (.slice (some ⟨g5,0,none⟩) (i+1) cap5) (i+1) (cC (mB t i m)) wq)) (fun kv _=>R - (intOf kv).toNat)
   case atStart=>exact ⟨0,Nat.zero_le _,rfl,Lib.hid (by rw [HPK.out,iQ0]; exact H6.out)⟩
   case round =>
    clear H6 HPK
    obtain ⟨m,hm,rfl,HQ⟩:=hrel
    obtain ⟨wq,rfl⟩:∃ wq:World,wq=wr:=⟨_,rfl⟩
    have hro:=HQ.out.ok.get (aK w.heap.size 3 1 (.slice ar R cr) R (cC (kg (ao t i)))) (by simp)
    by_cases hmd:m<d
    ·obtain ⟨r,hr⟩:∃ r,(ae t i)[m]?=some r:=⟨_,List.getElem?_eq_getElem (by rw [HKE.out,List.length_drop,HRR.out,HD.out]; omega)⟩
     have hrr:(ao t i)[fr+m]?=some r:=by
      rw [HKE.out,List.getElem?_drop,HRR.out,HD.out,show R - d=fr by omega] at hr
      exact hr
     have HPS:=keep (tJ hr)
     have hri:r<i:=HRL.out r (List.mem_of_getElem? hrr)
     obtain ⟨g4,cap4,e4,-,-⟩:=hro.form (by omega)
     injection e4 with e5 e6 e7
     subst e5 e7
     have c4:=hro.cells (g:=g4) rfl (fr+m) (.int .i64 (r:Int)) (by unfold cC kg; rw [List.map_map,List.getElem?_map,hrr]; rfl)
     rw [show (⟨g4,0,none⟩:Addr).add (fr+m)=⟨g4,fr+m,none⟩ by unfold Addr.add; split <;> simp_all] at c4
     have c5:=HQ.out.own.cells (g:=g5) rfl r _ (List.getElem?_eq_getElem (show r<(cC (mB t i m)).length by unfold cC; rw [List.length_map,vJ]; omega))
     rw [show (⟨g5,0,none⟩:Addr).add r=⟨g5,r,none⟩ by unfold Addr.add; split <;> simp_all] at c5
     have f5:=HQ.out.own.frozenAt r
     have hmr:((fr+m:Nat):Int)<(R:Int):=by omega
     have hri2:(r:Int)<((i:Int)+1):=by omega
     have hrn:r<i+1:=by omega
     have HS:=Lib.hid (HQ.out.stored_row r (.int .i64 (i:Int)))
     clear hr hrr hro
     go_wp2_with fail
     go_roundw
     case rel=>exact ⟨m+1,by omega,by go_num,Lib.hid (by rw [← HPS.out,← iQ9]; exact HS.out)⟩
     case measure=>simp [intOf]; omega
    obtain rfl:m=d:=by omega
    have HPE:=keep (vI t i m (by rw [HKE.out,List.length_drop,HRR.out,HD.out]; omega))
    have HX:=Lib.hid (show ai w [aK w.heap.size 3 1 (.slice (some ⟨g5,0,none⟩) (i+1) cap5) (i+1) (cC (gz t (i+1)))] 3 1 (.slice ar R cr) R (cC (kg (ao t i))) wq from by
     have h9:=HQ.out
     rw [HPE.out] at h9
     exact h9.swapR)
    clear HQ HPE
    have hcut:wq.ownsRow w.heap.size 3 1 (.slice ar fr cr) fr (cC (kg ((ao t i).take fr))):=by
     rcases hro.2 with ⟨e,h0⟩ | ⟨g4,cap4,cur,e,-⟩
     ·injection e with e1 e2 e3
      subst e1 e2 e3
      obtain rfl:fr=0:=by omega
      exact World.ownsRow_nil _ _ _ _
     injection e with e1 e2 e3
     subst e1 e3
     have h9:=gU hro (show fr≤R by omega)
     rw [Nat.mul_one] at h9
     have e9:cC (kg ((ao t i).take fr))=(cC (kg (ao t i))).take fr:=by unfold cC kg; rw [List.map_take,List.map_take]
     rw [e9]
     exact h9
    have hcrR:R≤cr:=by
     rcases hro.2 with ⟨e,h0⟩ | ⟨g4,cap4,cur,e,-,-,h6,-⟩
     ·injection e with e1 e2 e3; omega
     injection e with e1 e2 e3; omega
    have hfrc:(fr:Int)≤(cr:Int):=by omega
    have hbel:=HX.out.ok.bel
    have hW1:(wq.alloc (.cells #[] 3)).ownsRow w.heap.size 3 1 (.slice (some ⟨wq.heap.size,0,none⟩) 0 0) 0 []:=World.ownsRow_lit _ #[] 0 hbel.size (Nat.zero_le _) rfl
    have HO1:=Lib.hid (show ai w [aK w.heap.size 3 1 (.slice (some ⟨g5,0,none⟩) (i+1) cap5) (i+1) (cC (gz t (i+1)))] 3 1 (.slice (some ⟨wq.heap.size,0,none⟩) 0 0) 0 [] (wq.alloc (.cells #[] 3)) from ⟨HX.out.ok.alloc_obj _,hW1,fun x hx=>by
     rw [List.mem_singleton] at hx
     exact x.new wq _ (Nat.le_refl _) (HX.out.ok.all x (by rw [hx]; simp))⟩)
    obtain ⟨v7,w7,hr7,ho7,hg7,hat7⟩:=ol hW1 (hcut.alloc _) (iQ7 _) (by rw [World.size_alloc]; have:=hbel.size; omega) (by omega)
    have HO7:=Lib.hid (HO1.out.grown ho7 hg7 hat7)
    clear ho7 hg7 hat7 hW1 hcut HO1 hro hbel HX
    go_wp2_with (at_builtin; first | (refine ij rfl _ _ _ rfl _ _ rfl rfl hr7 ?_; clear hr7) | (refine wpList_append_lies _ rfl _ _ _ rfl w.heap.size 3 j0 _ 1 8 underlying50 ji jz0 jz1 jz2 rfl (by omega) _ _ _ rfl (HO7.out.own.alloc _) ⟨w7.heap.size,0,none⟩ 1 1 [.int .i64 (i:Int)] rfl rfl (World.news_of_block (cs:=#[.int .i64 (i:Int)]) (t:=3) (fr:=(0,0)) (heap_alloc_new _ _)) (by intro u hu; simp at hu; rcases hu with rfl; rfl) (by omega) (by unfold maxLen; omega) (by omega) (by have:=HO7.out.ok.bel.size; simp; omega) _ rfl ?_; intro g9 cap9 w9 hown9 hgrow9 hat9 hlt9))
    have HO9:=Lib.hid ((HO7.out.alloc_obj (.cells #[.int .i64 (i:Int)] 3)).appended hown9 hgrow9 hat9)
    clear HO7 hown9 hgrow9 hat9
    have HRN:=keep (show ao t (i+1)=(ao t i).take fr++[i] by
     rw [HRS.out,HRR.out,HD.out,show R - m=fr by omega])
    have HRM:=keep (show ((ao t i).take fr).length=fr by rw [List.length_take,HRR.out]; omega)
    go_roundw
    case rel =>
     refine ⟨i+1,by omega,by go_num,Lib.hid ?_⟩
     have h9:=HO9.out.swapR
     rw [HRN.out,List.length_append,HRM.out]
     have e9:cC (kg ((ao t i).take fr++[i]))=[]++cC (kg ((ao t i).take fr))++[.int .i64 (i:Int)]:=by
      unfold cC kg
      rw [List.map_append,List.map_append,List.nil_append]
      rfl
     rw [e9]
     simpa using h9
    case measure=>simp [intOf]; omega
  obtain rfl:n=i:=by omega
  go_wp2_with fail
  go_ret
  exact ⟨_,rfl,HR.out.own,HR.out.ok.bel⟩
set_option maxRecDepth 100000
set_option maxHeartbeats 4000000
open Go.RowKit Go.ChangeShapes Go.WideShapes Go.ChangeAt
theorem bQ (k:Nat) (n:Int) (s:ByteArray) (w:World) (hlo : -9223372036854775808≤n) (hhi:n≤9223372036854775807) (he:cn w) :
  Calls Tryz.prog 6 #[.agg #[.int .u8 (k:Nat),.int .i64 n,.string s]] w fun e w'=>e=.returned (.bool true)∧Below w.heap.size w w':=by
 have HE:=keep he
 have HLO:=keep hlo
 have HUP:=keep hhi
 have HCX:=keep (rK s _ rfl)
 have HCS:=keep (nB s).2
 have hx2:=(nB s).2
 clear he hlo hhi
 have H1:=Lib.hid ((Ok.start w).var w.heap.size 23 [.int .u8 (k:Nat),.int .i64 n,.string s] rfl)
 go_enter Tryz.func6,Tryz.ntmps6
 go_upto_region 1 with fail
 generalize (w.alloc (.cells #[.int .u8 (k:Nat),.int .i64 n,.string s] 23))=W2 at H1 ⊢
 have F3:=H1.out.sees
 simp only [sees,ah,ac,Nat.reduceAdd] at F3
 obtain ⟨⟨⟨z0,fz0⟩,c00,c01,c02,-⟩,-⟩:=F3
 go_wp2_with fail
 have H9:=Lib.hid (H1.out.set_ (i:=2) (u:=.string (s.extract 0 (min (s.size:Int) 300).toNat)) (Nat.le_refl _) (fun x hx=>absurd hx (by simp)))
 generalize W2.setCell ⟨w.heap.size,2,none⟩ (.string (s.extract 0 (min (s.size:Int) 300).toNat))=W9 at H9 ⊢
 rw [HCX.out] at H9 hx2 ⊢
 rw [HCX.out] at HCS
 clear H1 HCX
 obtain ⟨tt,htt⟩:=ex (s.data.toList.take 300)
 rw [htt] at H9 HCS hx2 ⊢
 have HTL:=keep (show tt.length≤300 by rw [← htt,List.length_take]; omega)
 clear htt hx2 z0 fz0 c00 c01 c02
 refine cM (eB k n tt (by have:=HTL.out; omega) HUP.out W9 (HE.out.below H9.out.bel)) H9 fun w10 H10=>?_
 clear H9
 have F10:=H10.out.sees
 simp only [List.set_cons_succ,List.set_cons_zero,sees,ah,ac,Nat.reduceAdd] at F10
 obtain ⟨⟨⟨z0,fz0⟩,c00,c01,c02,-⟩,-⟩:=F10
 obtain ⟨Y,hY⟩:∃ Y:ByteArray,Y=⟨(gS k n tt).1.toArray⟩:=⟨_,rfl⟩
 rw [← hY]
 have HY:=keep hY
 obtain ⟨E,hEE⟩:=ex ((gS k n tt).2)
 rw [hEE]
 have HEE:=keep hEE
 clear hY hEE
 go_wp2_with fail
 refine (iQ k n ⟨tt.toArray⟩ (by have:=HCS.out; omega) HLO.out HUP.out w10).mono ?_
 rintro e w11 ⟨rfl,hb⟩
 rw [s7 tt,← HY.out,HEE.out]
 have H11:=Lib.hid (H10.out.below hb)
 clear hb H10 z0 fz0 c00 c01 c02
 go_wp2_with fail
 refine cM (gQ w11 (HE.out.below H11.out.bel)) H11 fun w12 H12=>?_
 clear H11
 go_wp2_with fail
 go_ret
 exact ⟨rfl,H12.out.bel⟩
