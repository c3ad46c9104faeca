/- The reference's node: one node and the trees behind it. -/
import Derived.Test.YtdplcdhpnmcdjaaGreatDoorKTxu
import Derived.Test.YtdplcdhpnmcdjaaGreatDoorKTg
namespace Go.Proofs.YtdplcdhpnmcdjaaGreatDoor
set_option maxRecDepth 100000
set_option maxHeartbeats 16000000
open Go.RowKit Go.Proofs.Tryz
def Cr (r:Except Int (List Pt)) (w:World) (e:Ending) (w':World):Prop:=match r with
 | .error c=>e=.returned (.tuple #[.slice none 0 0,.int .i64 c])∧Below w.heap.size w w'
 | .ok st2=>∃ v,e=.returned (.tuple #[v,.int .i64 0])∧w'.ownsRow w.heap.size 130 2 v st2.length (hJ st2)∧Below w.heap.size w w'
theorem CV (t:List Nd) (ta:Option Addr) (tc i:Nat) (n:Nd) (st:List Pt) (sv:Value) (B:Nat) (w:World) (ht:bi w ta 11 (t.map du)) (_htl:t.length≤1000) (hn:t[i]?=some n) (hg:aL n) (hst:∀ p∈st,p.root<t.length∧p.depth≤32∧p.wide=decide (lz t p.root=3)) (hsl:st.length≤1000) (hB:B≤w.heap.size) (hS:w.ownsRow B 130 2 sv st.length (hJ st)) :
  Calls prog 147 #[.slice ta t.length tc,.int .i64 (i:Nat),sv] w (Cr (stepW t st i n) w):=by
 have il:i<t.length:=(List.getElem?_eq_some_iff.1 hn).1
 obtain ⟨tb,tz,rfl,htb,htcell⟩:=ht (by intro e; have h9:=congrArg List.length e; rw [List.length_map] at h9; simp only [List.length_nil] at h9; omega)
 have hcw:ag w tb (tz+i * 11) 0 (du n):=by
  have key:∀ j v,(du n)[j]?=some v→w.cell? ⟨tb,tz+i * 11+j,none⟩=some v:=by
   intro j v hj
   have h9:=htcell i (du n) (by rw [List.getElem?_map,hn]; rfl) j v hj
   rw [← Nat.add_assoc] at h9
   exact h9
  exact ⟨key 0 _ rfl,key 1 _ rfl,key 2 _ rfl,key 3 _ rfl,key 4 _ rfl,key 5 _ rfl,key 6 _ rfl,key 7 _ rfl,key 8 _ rfl,key 9 _ rfl,key 10 _ rfl,trivial⟩
 have HT:=keep htcell
 have HTB:=keep htb
 have HG:=keep hg
 have HST:=keep hst
 have HS:=keep hS
 have HB:=keep hB
 have HNN:=keep hn
 obtain ⟨tl,htl2⟩:=ex (t.length)
 rw [htl2] at _htl il ⊢
 have HTL:=keep htl2
 have ili:(i:Int)<(tl:Int):=by omega
 obtain ⟨R,hR⟩:=ex (stepW t st i n)
 rw [hR]
 have HR:=keep hR
 clear hR htl2 hst hS hB hn htcell hg ht
 obtain ⟨nk,vk,vn,vt,⟨r1,r2,r3,r4⟩,op,fn,nn⟩:=n
 have HGN:ao (aL ⟨nk,vk,vn,vt,⟨r1,r2,r3,r4⟩,op,fn,nn⟩):=HG
 have H0:=Lib.hid ((Ok.start w).add (ae tb (tz+i * 11) [.int .u8 nk,.int .u8 vk,.int .i64 vn,.string ⟨vt.toArray⟩,.int .i64 r1,.int .i64 r2,.int .i64 r3,.int .i64 r4,.int .i64 op,.int .u8 fn,.int .i64 nn]) ⟨htb,hcw⟩)
 clear hcw htb
 obtain ⟨m,hm⟩:=ex (st.length)
 have HM:=keep hm
 rw [hm] at hsl
 clear hm
 obtain ⟨i0,hi_,hz0,hz1,hz2⟩:=info_parts BI
 have hi9:=hi_
 clear hi_
 rcases HS.out.2 with ⟨hsv,hs0⟩ | ⟨g,cap,cur,hsv,hs1,hs2,hs3,hs4,_,_⟩
 ·subst hsv
  obtain rfl:m=0:=by rw [← HM.out]; exact hs0
  clear hs0
  go_enter func147,ntmps147
  have F1:=sE H0
  go_upto_region 2 with fail
  clear F1
  have H2:=Lib.hid (H0.out.alloc w.heap.size 39 [.int .u8 nk,.int .u8 vk,.int .i64 vn,.string ⟨vt.toArray⟩,.int .i64 r1,.int .i64 r2,.int .i64 r3,.int .i64 r4,.int .i64 op,.int .u8 fn,.int .i64 nn] rfl)
  clear H0
  generalize (w.alloc (.cells #[.int .u8 nk,.int .u8 vk,.int .i64 vn,.string ⟨vt.toArray⟩,.int .i64 r1,.int .i64 r2,.int .i64 r3,.int .i64 r4,.int .i64 op,.int .u8 fn,.int .i64 nn] 39))=W3 at H2 ⊢
  have F4:=sE H2
  go_wp2_with fail
  refine cM (AB ⟨nk,vk,vn,vt,⟨r1,r2,r3,r4⟩,op,fn,nn⟩ HGN.out _) H2 fun w5 H7=>?_
  clear F4 H2
  have F8:=sE H7
  go_upto_region 4 with fail
  by_cases h7:nk=7
  ·obtain ⟨f1,f2⟩:=lu HGN.out h7
   have f1:1≤fn:=f1
   have f2:fn≤50:=f2
   have far:(arS fn).1≤nn∧nn≤(arS fn).2:=by
    rcases HGN.out with ⟨vk',vn',vt',h9,hv⟩ | ⟨r,h9,_⟩ | ⟨r,h9,_⟩ | h9 | h9 | ⟨op',h9,_⟩ | ⟨fn',k',h9,h1,h2,h3,h4⟩
    ·rw [Nd.mk.injEq] at h9; omega
    ·unfold eu at h9; rw [Nd.mk.injEq] at h9; omega
    ·unfold cj at h9; rw [Nd.mk.injEq] at h9; omega
    ·unfold fz at h9; rw [Nd.mk.injEq] at h9; omega
    ·unfold dt at h9; rw [Nd.mk.injEq] at h9; omega
    ·unfold cN at h9; rw [Nd.mk.injEq] at h9; omega
    unfold da at h9
    rw [Nd.mk.injEq] at h9
    obtain ⟨_,_,_,_,_,_,e1,e2⟩:=h9
    subst e1 e2
    exact ⟨h3,h4⟩
   have HNM:=keep (fun W=>Bl fn W f2)
   obtain ⟨nx,hnx⟩:∃ x,zE fn=x:=⟨_,rfl⟩
   have hne:nx≠[]:=by
    intro e
    rw [← hnx] at e
    have h8:∀ z:Fin 51,1≤z.val→zE z.val≠[]:=by decide
    exact h8 ⟨fn,by omega⟩ f1 e
   rw [hnx] at HNM
   have hneb:(nx == ([]:List UInt8))=false:=by simpa using hne
   have HAR:=keep (fun W=>Ag fn W)
   obtain ⟨lo,hlo⟩:∃ x,(arS fn).1=x:=⟨_,rfl⟩
   obtain ⟨hi0,hhi0⟩:∃ x,(arS fn).2=x:=⟨_,rfl⟩
   rw [hlo,hhi0] at HAR far
   obtain ⟨far1,far2⟩:=far
   have g1:¬ ((nn:Nat):Int)<(lo:Int):=by omega
   have g2:¬ ((nn:Nat):Int)>(hi0:Int):=by omega
   have H7K:=keep h7
   clear hnx hne hlo hhi0 far1 far2
   have h7b:((nk:Int) == 7)=true:=by simp; omega
   clear h7
   go_wp2_with fail
   refine cM (HNM.out _) H7 fun w9 H11=>?_
   clear F8 H7
   have F12:=sE H11
   go_wp2_with fail
   refine (HAR.out _).mono ?_
   rintro e wz9 ⟨rfl,hw⟩
   obtain rfl:w9=wz9:=hw.symm
   go_wp2_with fail
   clear hneb g1 g2 h7b HNM HAR
   refine cM (z6 ⟨nk,vk,vn,vt,⟨r1,r2,r3,r4⟩,op,fn,nn⟩ _) H11 fun w13 H15=>?_
   clear F12 H11
   have F16:=sE H15
   obtain ⟨k,hk⟩:=ex (aw (⟨nk,vk,vn,vt,⟨r1,r2,r3,r4⟩,op,fn,nn⟩:Nd))
   rw [hk]
   have HKB:=keep hk
   clear hk
   by_cases hlen:0<k
   ·have hleni:(k:Int)>(0:Int):=by omega
    have HLEN:=keep (show st.length<k by rw [HM.out]; exact hlen)
    clear hlen
    have hR:=HR.out
    rw [jY HKB.out HLEN.out] at hR
    subst hR
    clear HR
    go_wp2_with fail
    exact bodyPost_ret (v:=.tuple #[.slice none 0 0,.int .i64 4]) (by simp [results,results147,go_sem]) rfl ⟨rfl,H15.out.bel⟩
   have hleni:¬ (k:Int)>(0:Int):=by omega
   have HNLT:=keep (show ¬ st.length<k by rw [HM.out]; exact hlen)
   obtain ⟨d,hd⟩:=ex (0 - k)
   have HD:=keep (show st.length - k=d by rw [HM.out]; exact hd)
   have hdm:d+k=0:=by omega
   clear hlen hd
   have hdw:IntKind.i64.wrap ((0:Int) - (k:Int))=(d:Int):=by rw [show (0:Int) - (k:Int)=(d:Int) by omega]; exact Go.IntWalk.i64_in _ (by omega)
   have hdi:(0:Int) - (k:Int)=(d:Int):=by omega
   obtain ⟨L,hL⟩:=ex (st.drop d)
   have hLk:L.length=k:=by rw [← hL,List.length_drop,HM.out]; omega
   have HL:=keep hL
   have HLK:=keep hLk
   clear hL hLk
   go_wp2_with fail
   have HK1:Hid (Ok w [ac (w.heap.size) 39 [.int .u8 nk,.int .u8 vk,.int .i64 vn,.string ⟨vt.toArray⟩,.int .i64 r1,.int .i64 r2,.int .i64 r3,.int .i64 r4,.int .i64 op,.int .u8 fn,.int .i64 nn]] w13):=Lib.hid (H15.out.drop _ (by simp))
   clear F16
   clear H15 hdw hdi hleni
   go_loopg [13,14] k (fun gf dv jv wr=>∃ j D:Nat,gf=k - j∧dv=.int .i64 (D:Int)∧jv=.int .i64 (j:Int)∧j≤k∧D≤33∧ao (bu (L.take j)=D)∧ao (ek t ⟨nk,vk,vn,vt,⟨r1,r2,r3,r4⟩,op,fn,nn⟩ 0 L=ek t ⟨nk,vk,vn,vt,⟨r1,r2,r3,r4⟩,op,fn,nn⟩ j (L.drop j))∧Hid (Ok w [ac (w.heap.size) 39 [.int .u8 nk,.int .u8 vk,.int .i64 vn,.string ⟨vt.toArray⟩,.int .i64 r1,.int .i64 r2,.int .i64 r3,.int .i64 r4,.int .i64 op,.int .u8 fn,.int .i64 nn]] wr))
   case atStart=>exact ⟨0,1,by simp,rfl,rfl,Nat.zero_le _,by omega,keep (by simp [bu]),keep (by simp),HK1⟩
   case round =>
    clear HK1
    obtain ⟨j,D,hgf,rfl,rfl,hjk,hD33,HDP,HFT,HRR⟩:=hrel
    obtain ⟨wp,rfl⟩:∃ wp:World,wp=wr:=⟨_,rfl⟩
    subst hgf
    by_cases hlj:j<k
    ·omega
    obtain rfl:j=k:=by omega
    have hlji:¬ (j:Int)<(j:Int):=by omega
    have HDL:=keep (show bu L=D by rw [← HDP.out]; congr 1; exact (List.take_of_length_le (by rw [HLK.out]; exact Nat.le_refl _)).symm)
    have HFL:=keep (show ek t ⟨nk,vk,vn,vt,⟨r1,r2,r3,r4⟩,op,fn,nn⟩ 0 L=true by rw [HFT.out,List.drop_eq_nil_of_le (by rw [HLK.out]; exact Nat.le_refl _)]; rfl)
    by_cases h32:(D:Int)>32
    ·have F17:=sE HRR
     have hR:=HR.out
     rw [iA HKB.out HNLT.out HD.out (by rw [HL.out]; exact HFL.out) (by rw [HL.out,HDL.out]; omega)] at hR
     subst hR
     clear HR
     go_wp2_with fail
     exact bodyPost_ret (v:=.tuple #[.slice none 0 0,.int .i64 9]) (by simp [results,results147,go_sem]) rfl ⟨rfl,HRR.out.bel⟩
    have hR:=HR.out
    rw [step_ok HKB.out HNLT.out HD.out (by rw [HL.out]; exact HFL.out) (by rw [HL.out,HDL.out]; omega),HL.out,HDL.out] at hR
    subst hR
    clear HR
    have hown:=own_below HS.out HRR.out.bel
    obtain rfl:d=0:=by omega
    have hw0:IntKind.i64.wrap (0:Int)=0:=Go.IntWalk.i64_in _ (by omega)
    have hcut:wp.ownsRow B 130 2 (.slice none 0 0) 0 (hJ (st.take 0)):=World.ownsRow_nil _ _ _ _
    have hbel:=HRR.out.bel
    have hW1:(wp.alloc (.cells #[] 130)).ownsRow w.heap.size 130 2 (.slice (some ⟨wp.heap.size,0,none⟩) 0 0) 0 []:=World.ownsRow_lit _ #[] 0 hbel.size (Nat.zero_le _) rfl
    have HO1:=Lib.hid (show an w [] 130 2 (.slice (some ⟨wp.heap.size,0,none⟩) 0 0) 0 [] (wp.alloc (.cells #[] 130)) from ⟨(HRR.out.alloc_obj _).drop _ (by simp),hW1,by simp⟩)
    obtain ⟨v7,w7,hr7,ho7,hg7,hat7⟩:=zR hW1 (hcut.alloc _) (AE _) (by rw [World.size_alloc]; have:=hbel.size; omega) (by omega)
    have HO7:=Lib.hid (HO1.out.grown ho7 hg7 hat7)
    clear ho7 hg7 hat7 hW1 hcut hown HO1
    have F17:=sE HRR
    go_wp2_with (at_builtin; first | (refine Aa rfl _ _ _ rfl _ _ rfl rfl hr7 ?_; clear hr7) | (refine wpList_append_lies _ rfl _ _ _ rfl w.heap.size 130 i0 _ 2 16 underlying126 hi9 hz0 hz1 hz2 rfl (by omega) _ _ _ rfl (HO7.out.own.alloc _) ⟨w7.heap.size,0,none⟩ 1 1 [.int .i64 (i:Int),.int .i64 (D:Int)] rfl rfl (World.news_of_block (cs:=#[.int .i64 (i:Int),.int .i64 (D:Int)]) (t:=130) (fr:=(0,0)) (heap_alloc_new _ _)) (by intro u hu; simp at hu; rcases hu with rfl | rfl <;> rfl) (by omega) (by unfold maxLen; omega) (by omega) (by have:=HO7.out.ok.bel.size; simp; omega) _ rfl ?_; intro g9 cap9 w9 hown9 hgrow9 hat9 hlt9; have HO9:=Lib.hid ((HO7.out.alloc_obj (.cells #[.int .i64 (i:Int),.int .i64 (D:Int)] 130)).appended hown9 hgrow9 hat9); clear hown9 hgrow9 hat9))
    have hfin:=HO9.out
    refine bodyPost_ret (v:=.tuple #[.slice (some ⟨g9,0,none⟩) (0+0+1) cap9,.int .i64 0]) (by simp [results,results147,go_sem]) rfl ⟨_,rfl,?_,hfin.ok.bel⟩
    have ho:=hfin.own
    simpa [hJ,zP] using ho
  have h7b:((nk:Int) == 7)=false:=by simp; omega
  clear h7
  go_wp2_with fail
  refine cM (z6 ⟨nk,vk,vn,vt,⟨r1,r2,r3,r4⟩,op,fn,nn⟩ _) H7 fun w9 H11=>?_
  clear F8 H7
  have F12:=sE H11
  obtain ⟨k,hk⟩:=ex (aw (⟨nk,vk,vn,vt,⟨r1,r2,r3,r4⟩,op,fn,nn⟩:Nd))
  rw [hk]
  have HKB:=keep hk
  clear hk
  by_cases hlen:0<k
  ·have hleni:(k:Int)>(0:Int):=by omega
   have HLEN:=keep (show st.length<k by rw [HM.out]; exact hlen)
   clear hlen
   have hR:=HR.out
   rw [jY HKB.out HLEN.out] at hR
   subst hR
   clear HR
   go_wp2_with fail
   exact bodyPost_ret (v:=.tuple #[.slice none 0 0,.int .i64 4]) (by simp [results,results147,go_sem]) rfl ⟨rfl,H11.out.bel⟩
  have hleni:¬ (k:Int)>(0:Int):=by omega
  have HNLT:=keep (show ¬ st.length<k by rw [HM.out]; exact hlen)
  obtain ⟨d,hd⟩:=ex (0 - k)
  have HD:=keep (show st.length - k=d by rw [HM.out]; exact hd)
  have hdm:d+k=0:=by omega
  clear hlen hd
  have hdw:IntKind.i64.wrap ((0:Int) - (k:Int))=(d:Int):=by rw [show (0:Int) - (k:Int)=(d:Int) by omega]; exact Go.IntWalk.i64_in _ (by omega)
  have hdi:(0:Int) - (k:Int)=(d:Int):=by omega
  obtain ⟨L,hL⟩:=ex (st.drop d)
  have hLk:L.length=k:=by rw [← hL,List.length_drop,HM.out]; omega
  have HL:=keep hL
  have HLK:=keep hLk
  clear hL hLk
  go_wp2_with fail
  have HK1:Hid (Ok w [ac (w.heap.size) 39 [.int .u8 nk,.int .u8 vk,.int .i64 vn,.string ⟨vt.toArray⟩,.int .i64 r1,.int .i64 r2,.int .i64 r3,.int .i64 r4,.int .i64 op,.int .u8 fn,.int .i64 nn]] w9):=Lib.hid (H11.out.drop _ (by simp))
  clear F12
  clear H11 hdw hdi hleni
  go_loopg [13,14] k (fun gf dv jv wr=>∃ j D:Nat,gf=k - j∧dv=.int .i64 (D:Int)∧jv=.int .i64 (j:Int)∧j≤k∧D≤33∧ao (bu (L.take j)=D)∧ao (ek t ⟨nk,vk,vn,vt,⟨r1,r2,r3,r4⟩,op,fn,nn⟩ 0 L=ek t ⟨nk,vk,vn,vt,⟨r1,r2,r3,r4⟩,op,fn,nn⟩ j (L.drop j))∧Hid (Ok w [ac (w.heap.size) 39 [.int .u8 nk,.int .u8 vk,.int .i64 vn,.string ⟨vt.toArray⟩,.int .i64 r1,.int .i64 r2,.int .i64 r3,.int .i64 r4,.int .i64 op,.int .u8 fn,.int .i64 nn]] wr))
  case atStart=>exact ⟨0,1,by simp,rfl,rfl,Nat.zero_le _,by omega,keep (by simp [bu]),keep (by simp),HK1⟩
  case round =>
   clear HK1
   obtain ⟨j,D,hgf,rfl,rfl,hjk,hD33,HDP,HFT,HRR⟩:=hrel
   obtain ⟨wp,rfl⟩:∃ wp:World,wp=wr:=⟨_,rfl⟩
   subst hgf
   by_cases hlj:j<k
   ·omega
   obtain rfl:j=k:=by omega
   have hlji:¬ (j:Int)<(j:Int):=by omega
   have HDL:=keep (show bu L=D by rw [← HDP.out]; congr 1; exact (List.take_of_length_le (by rw [HLK.out]; exact Nat.le_refl _)).symm)
   have HFL:=keep (show ek t ⟨nk,vk,vn,vt,⟨r1,r2,r3,r4⟩,op,fn,nn⟩ 0 L=true by rw [HFT.out,List.drop_eq_nil_of_le (by rw [HLK.out]; exact Nat.le_refl _)]; rfl)
   by_cases h32:(D:Int)>32
   ·have F13:=sE HRR
    have hR:=HR.out
    rw [iA HKB.out HNLT.out HD.out (by rw [HL.out]; exact HFL.out) (by rw [HL.out,HDL.out]; omega)] at hR
    subst hR
    clear HR
    go_wp2_with fail
    exact bodyPost_ret (v:=.tuple #[.slice none 0 0,.int .i64 9]) (by simp [results,results147,go_sem]) rfl ⟨rfl,HRR.out.bel⟩
   have hR:=HR.out
   rw [step_ok HKB.out HNLT.out HD.out (by rw [HL.out]; exact HFL.out) (by rw [HL.out,HDL.out]; omega),HL.out,HDL.out] at hR
   subst hR
   clear HR
   have hown:=own_below HS.out HRR.out.bel
   obtain rfl:d=0:=by omega
   have hw0:IntKind.i64.wrap (0:Int)=0:=Go.IntWalk.i64_in _ (by omega)
   have hcut:wp.ownsRow B 130 2 (.slice none 0 0) 0 (hJ (st.take 0)):=World.ownsRow_nil _ _ _ _
   have hbel:=HRR.out.bel
   have hW1:(wp.alloc (.cells #[] 130)).ownsRow w.heap.size 130 2 (.slice (some ⟨wp.heap.size,0,none⟩) 0 0) 0 []:=World.ownsRow_lit _ #[] 0 hbel.size (Nat.zero_le _) rfl
   have HO1:=Lib.hid (show an w [] 130 2 (.slice (some ⟨wp.heap.size,0,none⟩) 0 0) 0 [] (wp.alloc (.cells #[] 130)) from ⟨(HRR.out.alloc_obj _).drop _ (by simp),hW1,by simp⟩)
   obtain ⟨v7,w7,hr7,ho7,hg7,hat7⟩:=zR hW1 (hcut.alloc _) (AE _) (by rw [World.size_alloc]; have:=hbel.size; omega) (by omega)
   have HO7:=Lib.hid (HO1.out.grown ho7 hg7 hat7)
   clear ho7 hg7 hat7 hW1 hcut hown HO1
   have F13:=sE HRR
   go_wp2_with (at_builtin; first | (refine Aa rfl _ _ _ rfl _ _ rfl rfl hr7 ?_; clear hr7) | (refine wpList_append_lies _ rfl _ _ _ rfl w.heap.size 130 i0 _ 2 16 underlying126 hi9 hz0 hz1 hz2 rfl (by omega) _ _ _ rfl (HO7.out.own.alloc _) ⟨w7.heap.size,0,none⟩ 1 1 [.int .i64 (i:Int),.int .i64 (D:Int)] rfl rfl (World.news_of_block (cs:=#[.int .i64 (i:Int),.int .i64 (D:Int)]) (t:=130) (fr:=(0,0)) (heap_alloc_new _ _)) (by intro u hu; simp at hu; rcases hu with rfl | rfl <;> rfl) (by omega) (by unfold maxLen; omega) (by omega) (by have:=HO7.out.ok.bel.size; simp; omega) _ rfl ?_; intro g9 cap9 w9 hown9 hgrow9 hat9 hlt9; have HO9:=Lib.hid ((HO7.out.alloc_obj (.cells #[.int .i64 (i:Int),.int .i64 (D:Int)] 130)).appended hown9 hgrow9 hat9); clear hown9 hgrow9 hat9))
   have hfin:=HO9.out
   refine bodyPost_ret (v:=.tuple #[.slice (some ⟨g9,0,none⟩) (0+0+1) cap9,.int .i64 0]) (by simp [results,results147,go_sem]) rfl ⟨_,rfl,?_,hfin.ok.bel⟩
   have ho:=hfin.own
   simpa [hJ,zP] using ho
 subst hsv
 rw [HM.out] at hs3
 unfold maxLen at hs4
 clear hs1 hs2
 have HS2:=HS.out
 rw [HM.out] at HS2
 clear HS
 have HS:=keep HS2
 clear HS2
 rw [HM.out]
 go_enter func147,ntmps147
 have F1:=sE H0
 go_upto_region 2 with fail
 clear F1
 have H2:=Lib.hid (H0.out.alloc w.heap.size 39 [.int .u8 nk,.int .u8 vk,.int .i64 vn,.string ⟨vt.toArray⟩,.int .i64 r1,.int .i64 r2,.int .i64 r3,.int .i64 r4,.int .i64 op,.int .u8 fn,.int .i64 nn] rfl)
 clear H0
 generalize (w.alloc (.cells #[.int .u8 nk,.int .u8 vk,.int .i64 vn,.string ⟨vt.toArray⟩,.int .i64 r1,.int .i64 r2,.int .i64 r3,.int .i64 r4,.int .i64 op,.int .u8 fn,.int .i64 nn] 39))=W3 at H2 ⊢
 have F4:=sE H2
 go_wp2_with fail
 refine cM (AB ⟨nk,vk,vn,vt,⟨r1,r2,r3,r4⟩,op,fn,nn⟩ HGN.out _) H2 fun w5 H7=>?_
 clear F4 H2
 have F8:=sE H7
 go_upto_region 4 with fail
 by_cases h7:nk=7
 ·obtain ⟨f1,f2⟩:=lu HGN.out h7
  have f1:1≤fn:=f1
  have f2:fn≤50:=f2
  have far:(arS fn).1≤nn∧nn≤(arS fn).2:=by
   rcases HGN.out with ⟨vk',vn',vt',h9,hv⟩ | ⟨r,h9,_⟩ | ⟨r,h9,_⟩ | h9 | h9 | ⟨op',h9,_⟩ | ⟨fn',k',h9,h1,h2,h3,h4⟩
   ·rw [Nd.mk.injEq] at h9; omega
   ·unfold eu at h9; rw [Nd.mk.injEq] at h9; omega
   ·unfold cj at h9; rw [Nd.mk.injEq] at h9; omega
   ·unfold fz at h9; rw [Nd.mk.injEq] at h9; omega
   ·unfold dt at h9; rw [Nd.mk.injEq] at h9; omega
   ·unfold cN at h9; rw [Nd.mk.injEq] at h9; omega
   unfold da at h9
   rw [Nd.mk.injEq] at h9
   obtain ⟨_,_,_,_,_,_,e1,e2⟩:=h9
   subst e1 e2
   exact ⟨h3,h4⟩
  have HNM:=keep (fun W=>Bl fn W f2)
  obtain ⟨nx,hnx⟩:∃ x,zE fn=x:=⟨_,rfl⟩
  have hne:nx≠[]:=by
   intro e
   rw [← hnx] at e
   have h8:∀ z:Fin 51,1≤z.val→zE z.val≠[]:=by decide
   exact h8 ⟨fn,by omega⟩ f1 e
  rw [hnx] at HNM
  have hneb:(nx == ([]:List UInt8))=false:=by simpa using hne
  have HAR:=keep (fun W=>Ag fn W)
  obtain ⟨lo,hlo⟩:∃ x,(arS fn).1=x:=⟨_,rfl⟩
  obtain ⟨hi0,hhi0⟩:∃ x,(arS fn).2=x:=⟨_,rfl⟩
  rw [hlo,hhi0] at HAR far
  obtain ⟨far1,far2⟩:=far
  have g1:¬ ((nn:Nat):Int)<(lo:Int):=by omega
  have g2:¬ ((nn:Nat):Int)>(hi0:Int):=by omega
  have H7K:=keep h7
  clear hnx hne hlo hhi0 far1 far2
  have h7b:((nk:Int) == 7)=true:=by simp; omega
  clear h7
  go_wp2_with fail
  refine cM (HNM.out _) H7 fun w9 H11=>?_
  clear F8 H7
  have F12:=sE H11
  go_wp2_with fail
  refine (HAR.out _).mono ?_
  rintro e wz9 ⟨rfl,hw⟩
  obtain rfl:w9=wz9:=hw.symm
  go_wp2_with fail
  clear hneb g1 g2 h7b HNM HAR
  refine cM (z6 ⟨nk,vk,vn,vt,⟨r1,r2,r3,r4⟩,op,fn,nn⟩ _) H11 fun w13 H15=>?_
  clear F12 H11
  have F16:=sE H15
  obtain ⟨k,hk⟩:=ex (aw (⟨nk,vk,vn,vt,⟨r1,r2,r3,r4⟩,op,fn,nn⟩:Nd))
  rw [hk]
  have HKB:=keep hk
  clear hk
  by_cases hlen:m<k
  ·have hleni:(k:Int)>(m:Int):=by omega
   have HLEN:=keep (show st.length<k by rw [HM.out]; exact hlen)
   clear hlen
   have hR:=HR.out
   rw [jY HKB.out HLEN.out] at hR
   subst hR
   clear HR
   go_wp2_with fail
   exact bodyPost_ret (v:=.tuple #[.slice none 0 0,.int .i64 4]) (by simp [results,results147,go_sem]) rfl ⟨rfl,H15.out.bel⟩
  have hleni:¬ (k:Int)>(m:Int):=by omega
  have HNLT:=keep (show ¬ st.length<k by rw [HM.out]; exact hlen)
  have hlenn:decide (m<k)=false:=decide_eq_false hlen
  obtain ⟨d,hd⟩:=ex (m - k)
  have HD:=keep (show st.length - k=d by rw [HM.out]; exact hd)
  have hdm:d+k=m:=by omega
  clear hlen hd
  have hdw:IntKind.i64.wrap ((m:Int) - (k:Int))=(d:Int):=by rw [show (m:Int) - (k:Int)=(d:Int) by omega]; exact Go.IntWalk.i64_in _ (by omega)
  have hdi:(m:Int) - (k:Int)=(d:Int):=by omega
  obtain ⟨L,hL⟩:=ex (st.drop d)
  have hLk:L.length=k:=by rw [← hL,List.length_drop,HM.out]; omega
  have HL:=keep hL
  have HLK:=keep hLk
  clear hL hLk
  go_wp2_with fail
  have HK1:Hid (Ok w [ac (w.heap.size) 39 [.int .u8 nk,.int .u8 vk,.int .i64 vn,.string ⟨vt.toArray⟩,.int .i64 r1,.int .i64 r2,.int .i64 r3,.int .i64 r4,.int .i64 op,.int .u8 fn,.int .i64 nn]] w13):=Lib.hid (H15.out.drop _ (by simp))
  clear F16
  clear H15 hdw hdi hleni
  go_loopg [13,14] k (fun gf dv jv wr=>∃ j D:Nat,gf=k - j∧dv=.int .i64 (D:Int)∧jv=.int .i64 (j:Int)∧j≤k∧D≤33∧ao (bu (L.take j)=D)∧ao (ek t ⟨nk,vk,vn,vt,⟨r1,r2,r3,r4⟩,op,fn,nn⟩ 0 L=ek t ⟨nk,vk,vn,vt,⟨r1,r2,r3,r4⟩,op,fn,nn⟩ j (L.drop j))∧Hid (Ok w [ac (w.heap.size) 39 [.int .u8 nk,.int .u8 vk,.int .i64 vn,.string ⟨vt.toArray⟩,.int .i64 r1,.int .i64 r2,.int .i64 r3,.int .i64 r4,.int .i64 op,.int .u8 fn,.int .i64 nn]] wr))
  case atStart=>exact ⟨0,1,by simp,rfl,rfl,Nat.zero_le _,by omega,keep (by simp [bu]),keep (by simp),HK1⟩
  case round =>
   clear HK1
   obtain ⟨j,D,hgf,rfl,rfl,hjk,hD33,HDP,HFT,HRR⟩:=hrel
   obtain ⟨wp,rfl⟩:∃ wp:World,wp=wr:=⟨_,rfl⟩
   subst hgf
   by_cases hlj:j<k
   ·have hlji:(j:Int)<(k:Int):=by omega
    obtain ⟨q,hq⟩:=ex (d+j)
    have hqm:q<m:=by omega
    have hqi:(q:Int)<(m:Int):=by omega
    have hqa:(d:Int)+(j:Int)=(q:Int):=by omega
    have hqw:IntKind.i64.wrap ((d:Int)+(j:Int))=(q:Int):=by rw [hqa]; exact Go.IntWalk.i64_in _ (by omega)
    have hqw2:IntKind.i64.wrap (q:Int)=(q:Int):=Go.IntWalk.i64_in _ (by omega)
    have hqs:q<st.length:=by rw [HM.out]; exact hqm
    have hjl:j<L.length:=by rw [HLK.out]; exact hlj
    obtain ⟨p,hp⟩:=ex (st[q])
    have hpl:L[j]=p:=by
     have h9:L[j]?=some p:=by rw [← HL.out,List.getElem?_drop,hq,List.getElem?_eq_getElem hqs,hp]
     rw [List.getElem?_eq_getElem hjl] at h9
     exact Option.some.inj h9
    obtain ⟨hp1,hp2,hp3⟩:=HST.out p (by rw [← hp]; exact List.getElem_mem _)
    have hfd:ek t ⟨nk,vk,vn,vt,⟨r1,r2,r3,r4⟩,op,fn,nn⟩ j (L.drop j)=(d8 t ⟨nk,vk,vn,vt,⟨r1,r2,r3,r4⟩,op,fn,nn⟩ j p && ek t ⟨nk,vk,vn,vt,⟨r1,r2,r3,r4⟩,op,fn,nn⟩ (j+1) (L.drop (j+1))):=by rw [pZ _ _ _ _ hjl,hpl]
    have hdt:bu (L.take (j+1))=max D (p.depth+1):=by rw [List.take_succ_eq_append_getElem hjl,hpl,pS,HDP.out]
    rw [Dh HGN.out (by rw [HKB.out]; exact hlj) hp3] at hfd
    have HDT:=keep hdt
    obtain ⟨mn,hmn⟩:∃ mn,t[p.root]?=some mn:=⟨_,List.getElem?_eq_getElem hp1⟩
    have hka:lz t p.root=mn.kind:=by unfold lz; rw [hmn]; rfl
    rw [hka] at hfd
    have HFD:=keep hfd
    have hown:=own_below HS.out HRR.out.bel
    have hoc:=@World.ownsRow.cells _ _ _ _ _ _ _ hown
    have hc0:=hoc rfl (q * 2+0) _ (zT st q p (by rw [List.getElem?_eq_getElem hqs,hp]) 0 _ rfl)
    have hc1:=hoc rfl (q * 2+1) _ (zT st q p (by rw [List.getElem?_eq_getElem hqs,hp]) 1 _ rfl)
    rw [Be] at hc0 hc1
    have hgl:=(hown.lt g rfl).2
    have hbel:=HRR.out.bel
    have hmc:ag wp tb (tz+p.root * 11) 0 (du mn):=by
     have key:∀ x v,(du mn)[x]?=some v→wp.cell? ⟨tb,tz+p.root * 11+x,none⟩=some v:=by
      intro x v hj
      have h9:=HT.out p.root (du mn) (by rw [List.getElem?_map,hmn]; rfl) x v hj
      rw [← Nat.add_assoc] at h9
      exact (hbel.cell HTB.out).trans h9
     exact ⟨key 0 _ rfl,key 1 _ rfl,key 2 _ rfl,key 3 _ rfl,key 4 _ rfl,key 5 _ rfl,key 6 _ rfl,key 7 _ rfl,key 8 _ rfl,key 9 _ rfl,key 10 _ rfl,trivial⟩
    have htbw:tb<wp.heap.size:=Nat.lt_of_lt_of_le HTB.out hbel.size
    obtain ⟨pr,pd,pw⟩:=p
    simp only [] at hc0 hc1
    simp only at hp1 hp2 hmc hka hdt
    have hpri:(pr:Int)<(tl:Int):=by rw [HTL.out] at hp1; omega
    have hpdi:(pd:Int)≤32:=by omega
    obtain ⟨mk,mvk,mvn,mvt,⟨m1,m2,m3,m4⟩,mop,mfn,mnn⟩:=mn
    have HR2:=Lib.hid ((HRR.out.add (ae tb (tz+pr * 11) [.int .u8 mk,.int .u8 mvk,.int .i64 mvn,.string ⟨mvt.toArray⟩,.int .i64 m1,.int .i64 m2,.int .i64 m3,.int .i64 m4,.int .i64 mop,.int .u8 mfn,.int .i64 mnn]) ⟨htbw,hmc⟩).add (ae g (q * 2) [.int .i64 (pr:Nat),.int .i64 (pd:Nat)]) ⟨hgl,hc0,hc1,trivial⟩)
    clear hmc hc0 hc1 hgl hoc hown hfd hdt hmn hka hp hpl hjl hp3 HRR hbel htbw
    obtain ⟨fv,hfv⟩:=ex (Cc ⟨nk,vk,vn,vt,⟨r1,r2,r3,r4⟩,op,fn,nn⟩ j mk)
    have HFV:=keep hfv
    clear hfv
    go_upto_region 18 with fail
    refine wp_region_held_drew (S:=fun W=>Ok w [ae g (q * 2) [.int .i64 (pr:Nat),.int .i64 (pd:Nat)],ae tb (tz+pr * 11) [.int .u8 mk,.int .u8 mvk,.int .i64 mvn,.string ⟨mvt.toArray⟩,.int .i64 m1,.int .i64 m2,.int .i64 m3,.int .i64 m4,.int .i64 mop,.int .u8 mfn,.int .i64 mnn],ac (w.heap.size) 39 [.int .u8 nk,.int .u8 vk,.int .i64 vn,.string ⟨vt.toArray⟩,.int .i64 r1,.int .i64 r2,.int .i64 r3,.int .i64 r4,.int .i64 op,.int .u8 fn,.int .i64 nn]] W) (by kernel_rfl) HR2.out.drew (fun hHeld => ?_)
    refine wt3 0 ?_
    refine wt3 1 ?_
    refine wt3 2 ?_
    refine wt3 3 ?_
    refine wt3 4 ?_
    refine wt3 5 ?_
    refine wt3 6 ?_
    refine wt3 7 ?_
    refine wt3 8 ?_
    refine wt3 9 ?_
    refine wt3 10 ?_
    refine wt3 11 ?_
    refine wal 12 fun K hK => ?_
    go_simp
    refine (A8 ⟨nk,vk,vn,vt,⟨r1,r2,r3,r4⟩,op,fn,nn⟩ ⟨mk,mvk,mvn,mvt,⟨m1,m2,m3,m4⟩,mop,mfn,mnn⟩ j _).mono ?_
    rintro e w18 ⟨rfl,hb19⟩
    rw [show (⟨mk,mvk,mvn,mvt,⟨m1,m2,m3,m4⟩,mop,mfn,mnn⟩:Nd).kind=mk from rfl,HFV.out]
    go_wp2_with fail
    refine hK.out _ _ (hHeld.below hb19) (fun hHeld => ?_)
    clear hK K
    refine wn ?_
    refine wt3 13 ?_
    refine wpAnyH_done (by kernel_rfl) ?_ _
    clear HR2
    have H20:=Lib.hid hHeld
    clear hHeld
    cases fv
    ·have HUN:=keep (show ek t ⟨nk,vk,vn,vt,⟨r1,r2,r3,r4⟩,op,fn,nn⟩ 0 L=false by rw [HFT.out,HFD.out,HFV.out]; rfl)
     have hR:=HR.out
     rw [gE HKB.out HNLT.out HD.out (by rw [HL.out]; exact HUN.out)] at hR
     subst hR
     clear HR
     go_wp2_with fail
     exact bodyPost_ret (v:=.tuple #[.slice none 0 0,.int .i64 4]) (by simp [results,results147,go_sem]) rfl ⟨rfl,H20.out.bel⟩
    have F21:=sE H20
    go_wp2_with fail
    go_roundg (k - (j+1))
    case rel =>
     refine ⟨j+1,max D (pd+1),rfl,by congr 1; omega,by go_num,by omega,by omega,HDT,keep ?_,Lib.hid (H20.out.drop _ (by simp))⟩
     rw [HFT.out,HFD.out,HFV.out]
     rfl
    case measure=>omega
   obtain rfl:j=k:=by omega
   have hlji:¬ (j:Int)<(j:Int):=by omega
   have HDL:=keep (show bu L=D by rw [← HDP.out]; congr 1; exact (List.take_of_length_le (by rw [HLK.out]; exact Nat.le_refl _)).symm)
   have HFL:=keep (show ek t ⟨nk,vk,vn,vt,⟨r1,r2,r3,r4⟩,op,fn,nn⟩ 0 L=true by rw [HFT.out,List.drop_eq_nil_of_le (by rw [HLK.out]; exact Nat.le_refl _)]; rfl)
   by_cases h32:(D:Int)>32
   ·have F17:=sE HRR
    have hR:=HR.out
    rw [iA HKB.out HNLT.out HD.out (by rw [HL.out]; exact HFL.out) (by rw [HL.out,HDL.out]; omega)] at hR
    subst hR
    clear HR
    go_wp2_with fail
    exact bodyPost_ret (v:=.tuple #[.slice none 0 0,.int .i64 9]) (by simp [results,results147,go_sem]) rfl ⟨rfl,HRR.out.bel⟩
   have hR:=HR.out
   rw [step_ok HKB.out HNLT.out HD.out (by rw [HL.out]; exact HFL.out) (by rw [HL.out,HDL.out]; omega),HL.out,HDL.out] at hR
   subst hR
   clear HR
   have hown:=own_below HS.out HRR.out.bel
   have hcut:=mD hown (show d≤m by omega)
   rw [Aj _ _ (by rw [HM.out]; omega)] at hcut
   have hdw2:IntKind.i64.wrap (d:Int)=(d:Int):=Go.IntWalk.i64_in _ (by omega)
   have hdm2:(d:Int)≤(cap:Int):=by omega
   have hbel:=HRR.out.bel
   have hW1:(wp.alloc (.cells #[] 130)).ownsRow w.heap.size 130 2 (.slice (some ⟨wp.heap.size,0,none⟩) 0 0) 0 []:=World.ownsRow_lit _ #[] 0 hbel.size (Nat.zero_le _) rfl
   have HO1:=Lib.hid (show an w [] 130 2 (.slice (some ⟨wp.heap.size,0,none⟩) 0 0) 0 [] (wp.alloc (.cells #[] 130)) from ⟨(HRR.out.alloc_obj _).drop _ (by simp),hW1,by simp⟩)
   obtain ⟨v7,w7,hr7,ho7,hg7,hat7⟩:=zR hW1 (hcut.alloc _) (AE _) (by rw [World.size_alloc]; have:=hbel.size; omega) (by omega)
   have HO7:=Lib.hid (HO1.out.grown ho7 hg7 hat7)
   clear ho7 hg7 hat7 hW1 hcut hown HO1
   have F17:=sE HRR
   go_wp2_with (at_builtin; first | (refine Aa rfl _ _ _ rfl _ _ rfl rfl hr7 ?_; clear hr7) | (refine wpList_append_lies _ rfl _ _ _ rfl w.heap.size 130 i0 _ 2 16 underlying126 hi9 hz0 hz1 hz2 rfl (by omega) _ _ _ rfl (HO7.out.own.alloc _) ⟨w7.heap.size,0,none⟩ 1 1 [.int .i64 (i:Int),.int .i64 (D:Int)] rfl rfl (World.news_of_block (cs:=#[.int .i64 (i:Int),.int .i64 (D:Int)]) (t:=130) (fr:=(0,0)) (heap_alloc_new _ _)) (by intro u hu; simp at hu; rcases hu with rfl | rfl <;> rfl) (by omega) (by unfold maxLen; omega) (by omega) (by have:=HO7.out.ok.bel.size; simp; omega) _ rfl ?_; intro g9 cap9 w9 hown9 hgrow9 hat9 hlt9; have HO9:=Lib.hid ((HO7.out.alloc_obj (.cells #[.int .i64 (i:Int),.int .i64 (D:Int)] 130)).appended hown9 hgrow9 hat9); clear hown9 hgrow9 hat9))
   have hfin:=HO9.out
   refine bodyPost_ret (v:=.tuple #[.slice (some ⟨g9,0,none⟩) (0+d+1) cap9,.int .i64 0]) (by simp [results,results147,go_sem]) rfl ⟨_,rfl,?_,hfin.ok.bel⟩
   have ho:=hfin.own
   rw [Ai,List.length_append,List.length_take,HM.out,Nat.min_eq_left (show d≤m by omega),List.length_singleton]
   simpa [zP] using ho
 have h7b:((nk:Int) == 7)=false:=by simp; omega
 clear h7
 go_wp2_with fail
 refine cM (z6 ⟨nk,vk,vn,vt,⟨r1,r2,r3,r4⟩,op,fn,nn⟩ _) H7 fun w9 H11=>?_
 clear F8 H7
 have F12:=sE H11
 obtain ⟨k,hk⟩:=ex (aw (⟨nk,vk,vn,vt,⟨r1,r2,r3,r4⟩,op,fn,nn⟩:Nd))
 rw [hk]
 have HKB:=keep hk
 clear hk
 by_cases hlen:m<k
 ·have hleni:(k:Int)>(m:Int):=by omega
  have HLEN:=keep (show st.length<k by rw [HM.out]; exact hlen)
  clear hlen
  have hR:=HR.out
  rw [jY HKB.out HLEN.out] at hR
  subst hR
  clear HR
  go_wp2_with fail
  exact bodyPost_ret (v:=.tuple #[.slice none 0 0,.int .i64 4]) (by simp [results,results147,go_sem]) rfl ⟨rfl,H11.out.bel⟩
 have hleni:¬ (k:Int)>(m:Int):=by omega
 have HNLT:=keep (show ¬ st.length<k by rw [HM.out]; exact hlen)
 have hlenn:decide (m<k)=false:=decide_eq_false hlen
 obtain ⟨d,hd⟩:=ex (m - k)
 have HD:=keep (show st.length - k=d by rw [HM.out]; exact hd)
 have hdm:d+k=m:=by omega
 clear hlen hd
 have hdw:IntKind.i64.wrap ((m:Int) - (k:Int))=(d:Int):=by rw [show (m:Int) - (k:Int)=(d:Int) by omega]; exact Go.IntWalk.i64_in _ (by omega)
 have hdi:(m:Int) - (k:Int)=(d:Int):=by omega
 obtain ⟨L,hL⟩:=ex (st.drop d)
 have hLk:L.length=k:=by rw [← hL,List.length_drop,HM.out]; omega
 have HL:=keep hL
 have HLK:=keep hLk
 clear hL hLk
 go_wp2_with fail
 have HK1:Hid (Ok w [ac (w.heap.size) 39 [.int .u8 nk,.int .u8 vk,.int .i64 vn,.string ⟨vt.toArray⟩,.int .i64 r1,.int .i64 r2,.int .i64 r3,.int .i64 r4,.int .i64 op,.int .u8 fn,.int .i64 nn]] w9):=Lib.hid (H11.out.drop _ (by simp))
 clear F12
 clear H11 hdw hdi hleni
 go_loopg [13,14] k (fun gf dv jv wr=>∃ j D:Nat,gf=k - j∧dv=.int .i64 (D:Int)∧jv=.int .i64 (j:Int)∧j≤k∧D≤33∧ao (bu (L.take j)=D)∧ao (ek t ⟨nk,vk,vn,vt,⟨r1,r2,r3,r4⟩,op,fn,nn⟩ 0 L=ek t ⟨nk,vk,vn,vt,⟨r1,r2,r3,r4⟩,op,fn,nn⟩ j (L.drop j))∧Hid (Ok w [ac (w.heap.size) 39 [.int .u8 nk,.int .u8 vk,.int .i64 vn,.string ⟨vt.toArray⟩,.int .i64 r1,.int .i64 r2,.int .i64 r3,.int .i64 r4,.int .i64 op,.int .u8 fn,.int .i64 nn]] wr))
 case atStart=>exact ⟨0,1,by simp,rfl,rfl,Nat.zero_le _,by omega,keep (by simp [bu]),keep (by simp),HK1⟩
 case round =>
  clear HK1
  obtain ⟨j,D,hgf,rfl,rfl,hjk,hD33,HDP,HFT,HRR⟩:=hrel
  obtain ⟨wp,rfl⟩:∃ wp:World,wp=wr:=⟨_,rfl⟩
  subst hgf
  by_cases hlj:j<k
  ·have hlji:(j:Int)<(k:Int):=by omega
   obtain ⟨q,hq⟩:=ex (d+j)
   have hqm:q<m:=by omega
   have hqi:(q:Int)<(m:Int):=by omega
   have hqa:(d:Int)+(j:Int)=(q:Int):=by omega
   have hqw:IntKind.i64.wrap ((d:Int)+(j:Int))=(q:Int):=by rw [hqa]; exact Go.IntWalk.i64_in _ (by omega)
   have hqw2:IntKind.i64.wrap (q:Int)=(q:Int):=Go.IntWalk.i64_in _ (by omega)
   have hqs:q<st.length:=by rw [HM.out]; exact hqm
   have hjl:j<L.length:=by rw [HLK.out]; exact hlj
   obtain ⟨p,hp⟩:=ex (st[q])
   have hpl:L[j]=p:=by
    have h9:L[j]?=some p:=by rw [← HL.out,List.getElem?_drop,hq,List.getElem?_eq_getElem hqs,hp]
    rw [List.getElem?_eq_getElem hjl] at h9
    exact Option.some.inj h9
   obtain ⟨hp1,hp2,hp3⟩:=HST.out p (by rw [← hp]; exact List.getElem_mem _)
   have hfd:ek t ⟨nk,vk,vn,vt,⟨r1,r2,r3,r4⟩,op,fn,nn⟩ j (L.drop j)=(d8 t ⟨nk,vk,vn,vt,⟨r1,r2,r3,r4⟩,op,fn,nn⟩ j p && ek t ⟨nk,vk,vn,vt,⟨r1,r2,r3,r4⟩,op,fn,nn⟩ (j+1) (L.drop (j+1))):=by rw [pZ _ _ _ _ hjl,hpl]
   have hdt:bu (L.take (j+1))=max D (p.depth+1):=by rw [List.take_succ_eq_append_getElem hjl,hpl,pS,HDP.out]
   rw [Dh HGN.out (by rw [HKB.out]; exact hlj) hp3] at hfd
   have HDT:=keep hdt
   obtain ⟨mn,hmn⟩:∃ mn,t[p.root]?=some mn:=⟨_,List.getElem?_eq_getElem hp1⟩
   have hka:lz t p.root=mn.kind:=by unfold lz; rw [hmn]; rfl
   rw [hka] at hfd
   have HFD:=keep hfd
   have hown:=own_below HS.out HRR.out.bel
   have hoc:=@World.ownsRow.cells _ _ _ _ _ _ _ hown
   have hc0:=hoc rfl (q * 2+0) _ (zT st q p (by rw [List.getElem?_eq_getElem hqs,hp]) 0 _ rfl)
   have hc1:=hoc rfl (q * 2+1) _ (zT st q p (by rw [List.getElem?_eq_getElem hqs,hp]) 1 _ rfl)
   rw [Be] at hc0 hc1
   have hgl:=(hown.lt g rfl).2
   have hbel:=HRR.out.bel
   have hmc:ag wp tb (tz+p.root * 11) 0 (du mn):=by
    have key:∀ x v,(du mn)[x]?=some v→wp.cell? ⟨tb,tz+p.root * 11+x,none⟩=some v:=by
     intro x v hj
     have h9:=HT.out p.root (du mn) (by rw [List.getElem?_map,hmn]; rfl) x v hj
     rw [← Nat.add_assoc] at h9
     exact (hbel.cell HTB.out).trans h9
    exact ⟨key 0 _ rfl,key 1 _ rfl,key 2 _ rfl,key 3 _ rfl,key 4 _ rfl,key 5 _ rfl,key 6 _ rfl,key 7 _ rfl,key 8 _ rfl,key 9 _ rfl,key 10 _ rfl,trivial⟩
   have htbw:tb<wp.heap.size:=Nat.lt_of_lt_of_le HTB.out hbel.size
   obtain ⟨pr,pd,pw⟩:=p
   simp only [] at hc0 hc1
   simp only at hp1 hp2 hmc hka hdt
   have hpri:(pr:Int)<(tl:Int):=by rw [HTL.out] at hp1; omega
   have hpdi:(pd:Int)≤32:=by omega
   obtain ⟨mk,mvk,mvn,mvt,⟨m1,m2,m3,m4⟩,mop,mfn,mnn⟩:=mn
   have HR2:=Lib.hid ((HRR.out.add (ae tb (tz+pr * 11) [.int .u8 mk,.int .u8 mvk,.int .i64 mvn,.string ⟨mvt.toArray⟩,.int .i64 m1,.int .i64 m2,.int .i64 m3,.int .i64 m4,.int .i64 mop,.int .u8 mfn,.int .i64 mnn]) ⟨htbw,hmc⟩).add (ae g (q * 2) [.int .i64 (pr:Nat),.int .i64 (pd:Nat)]) ⟨hgl,hc0,hc1,trivial⟩)
   clear hmc hc0 hc1 hgl hoc hown hfd hdt hmn hka hp hpl hjl hp3 HRR hbel htbw
   obtain ⟨fv,hfv⟩:=ex (Cc ⟨nk,vk,vn,vt,⟨r1,r2,r3,r4⟩,op,fn,nn⟩ j mk)
   have HFV:=keep hfv
   clear hfv
   go_upto_region 18 with fail
   refine wp_region_held_drew (S:=fun W=>Ok w [ae g (q * 2) [.int .i64 (pr:Nat),.int .i64 (pd:Nat)],ae tb (tz+pr * 11) [.int .u8 mk,.int .u8 mvk,.int .i64 mvn,.string ⟨mvt.toArray⟩,.int .i64 m1,.int .i64 m2,.int .i64 m3,.int .i64 m4,.int .i64 mop,.int .u8 mfn,.int .i64 mnn],ac (w.heap.size) 39 [.int .u8 nk,.int .u8 vk,.int .i64 vn,.string ⟨vt.toArray⟩,.int .i64 r1,.int .i64 r2,.int .i64 r3,.int .i64 r4,.int .i64 op,.int .u8 fn,.int .i64 nn]] W) (by kernel_rfl) HR2.out.drew (fun hHeld => ?_)
   refine wt3 0 ?_
   refine wt3 1 ?_
   refine wt3 2 ?_
   refine wt3 3 ?_
   refine wt3 4 ?_
   refine wt3 5 ?_
   refine wt3 6 ?_
   refine wt3 7 ?_
   refine wt3 8 ?_
   refine wt3 9 ?_
   refine wt3 10 ?_
   refine wt3 11 ?_
   refine wal 12 fun K hK => ?_
   go_simp
   refine (A8 ⟨nk,vk,vn,vt,⟨r1,r2,r3,r4⟩,op,fn,nn⟩ ⟨mk,mvk,mvn,mvt,⟨m1,m2,m3,m4⟩,mop,mfn,mnn⟩ j _).mono ?_
   rintro e w14 ⟨rfl,hb15⟩
   rw [show (⟨mk,mvk,mvn,mvt,⟨m1,m2,m3,m4⟩,mop,mfn,mnn⟩:Nd).kind=mk from rfl,HFV.out]
   go_wp2_with fail
   refine hK.out _ _ (hHeld.below hb15) (fun hHeld => ?_)
   clear hK K
   refine wn ?_
   refine wt3 13 ?_
   refine wpAnyH_done (by kernel_rfl) ?_ _
   clear HR2
   have H16:=Lib.hid hHeld
   clear hHeld
   cases fv
   ·have HUN:=keep (show ek t ⟨nk,vk,vn,vt,⟨r1,r2,r3,r4⟩,op,fn,nn⟩ 0 L=false by rw [HFT.out,HFD.out,HFV.out]; rfl)
    have hR:=HR.out
    rw [gE HKB.out HNLT.out HD.out (by rw [HL.out]; exact HUN.out)] at hR
    subst hR
    clear HR
    go_wp2_with fail
    exact bodyPost_ret (v:=.tuple #[.slice none 0 0,.int .i64 4]) (by simp [results,results147,go_sem]) rfl ⟨rfl,H16.out.bel⟩
   have F17:=sE H16
   go_wp2_with fail
   go_roundg (k - (j+1))
   case rel =>
    refine ⟨j+1,max D (pd+1),rfl,by congr 1; omega,by go_num,by omega,by omega,HDT,keep ?_,Lib.hid (H16.out.drop _ (by simp))⟩
    rw [HFT.out,HFD.out,HFV.out]
    rfl
   case measure=>omega
  obtain rfl:j=k:=by omega
  have hlji:¬ (j:Int)<(j:Int):=by omega
  have HDL:=keep (show bu L=D by rw [← HDP.out]; congr 1; exact (List.take_of_length_le (by rw [HLK.out]; exact Nat.le_refl _)).symm)
  have HFL:=keep (show ek t ⟨nk,vk,vn,vt,⟨r1,r2,r3,r4⟩,op,fn,nn⟩ 0 L=true by rw [HFT.out,List.drop_eq_nil_of_le (by rw [HLK.out]; exact Nat.le_refl _)]; rfl)
  by_cases h32:(D:Int)>32
  ·have F13:=sE HRR
   have hR:=HR.out
   rw [iA HKB.out HNLT.out HD.out (by rw [HL.out]; exact HFL.out) (by rw [HL.out,HDL.out]; omega)] at hR
   subst hR
   clear HR
   go_wp2_with fail
   exact bodyPost_ret (v:=.tuple #[.slice none 0 0,.int .i64 9]) (by simp [results,results147,go_sem]) rfl ⟨rfl,HRR.out.bel⟩
  have hR:=HR.out
  rw [step_ok HKB.out HNLT.out HD.out (by rw [HL.out]; exact HFL.out) (by rw [HL.out,HDL.out]; omega),HL.out,HDL.out] at hR
  subst hR
  clear HR
  have hown:=own_below HS.out HRR.out.bel
  have hcut:=mD hown (show d≤m by omega)
  rw [Aj _ _ (by rw [HM.out]; omega)] at hcut
  have hdw2:IntKind.i64.wrap (d:Int)=(d:Int):=Go.IntWalk.i64_in _ (by omega)
  have hdm2:(d:Int)≤(cap:Int):=by omega
  have hbel:=HRR.out.bel
  have hW1:(wp.alloc (.cells #[] 130)).ownsRow w.heap.size 130 2 (.slice (some ⟨wp.heap.size,0,none⟩) 0 0) 0 []:=World.ownsRow_lit _ #[] 0 hbel.size (Nat.zero_le _) rfl
  have HO1:=Lib.hid (show an w [] 130 2 (.slice (some ⟨wp.heap.size,0,none⟩) 0 0) 0 [] (wp.alloc (.cells #[] 130)) from ⟨(HRR.out.alloc_obj _).drop _ (by simp),hW1,by simp⟩)
  obtain ⟨v7,w7,hr7,ho7,hg7,hat7⟩:=zR hW1 (hcut.alloc _) (AE _) (by rw [World.size_alloc]; have:=hbel.size; omega) (by omega)
  have HO7:=Lib.hid (HO1.out.grown ho7 hg7 hat7)
  clear ho7 hg7 hat7 hW1 hcut hown HO1
  have F13:=sE HRR
  go_wp2_with (at_builtin; first | (refine Aa rfl _ _ _ rfl _ _ rfl rfl hr7 ?_; clear hr7) | (refine wpList_append_lies _ rfl _ _ _ rfl w.heap.size 130 i0 _ 2 16 underlying126 hi9 hz0 hz1 hz2 rfl (by omega) _ _ _ rfl (HO7.out.own.alloc _) ⟨w7.heap.size,0,none⟩ 1 1 [.int .i64 (i:Int),.int .i64 (D:Int)] rfl rfl (World.news_of_block (cs:=#[.int .i64 (i:Int),.int .i64 (D:Int)]) (t:=130) (fr:=(0,0)) (heap_alloc_new _ _)) (by intro u hu; simp at hu; rcases hu with rfl | rfl <;> rfl) (by omega) (by unfold maxLen; omega) (by omega) (by have:=HO7.out.ok.bel.size; simp; omega) _ rfl ?_; intro g9 cap9 w9 hown9 hgrow9 hat9 hlt9; have HO9:=Lib.hid ((HO7.out.alloc_obj (.cells #[.int .i64 (i:Int),.int .i64 (D:Int)] 130)).appended hown9 hgrow9 hat9); clear hown9 hgrow9 hat9))
  have hfin:=HO9.out
  refine bodyPost_ret (v:=.tuple #[.slice (some ⟨g9,0,none⟩) (0+d+1) cap9,.int .i64 0]) (by simp [results,results147,go_sem]) rfl ⟨_,rfl,?_,hfin.ok.bel⟩
  have ho:=hfin.own
  rw [Ai,List.length_append,List.length_take,HM.out,Nat.min_eq_left (show d≤m by omega),List.length_singleton]
  simpa [zP] using ho
