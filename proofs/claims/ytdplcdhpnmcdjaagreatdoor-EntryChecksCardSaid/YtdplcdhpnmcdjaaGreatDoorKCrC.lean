/- The reference's decimal reader: Parse (louvreref01). -/
import Derived.Test.YtdplcdhpnmcdjaaGreatDoorKParB
import Derived.Test.YtdplcdhpnmcdjaaGreatDoorKTg
namespace Go.Proofs.YtdplcdhpnmcdjaaGreatDoor
set_option maxRecDepth 100000
set_option maxHeartbeats 8000000
open Go.RowKit Go.Proofs.Tryz
theorem sY (l:List UInt8):∃ sg w z:List UInt8,l=sg++(w++z)∧((l.head?=some 45∧sg=[45])∨(l.head?≠some 45∧sg=[]))∧w.all ah=true∧stops ah z=true:=by
 obtain ⟨e,hw,hs⟩:=br ah (bT l)
 by_cases h:l.head?=some 45
 ·refine ⟨[45],_,_,?_,.inl ⟨h,rfl⟩,List.all_eq_true.2 hw,hs⟩
  rw [← e]
  unfold bT
  rw [if_pos h]
  cases l with
  | nil=>cases h
  | cons b r=>cases h; rfl
 refine ⟨[],_,_,?_,.inr ⟨h,rfl⟩,List.all_eq_true.2 hw,hs⟩
 rw [← e]
 unfold bT
 rw [if_neg h]; rfl
theorem vu {l sg w z:List UInt8} (hl:l=sg++(w++z)) (hs:(l.head?=some 45∧sg=[45])∨(l.head?≠some 45∧sg=[])):bT l=w++z:=by
 unfold bT
 rcases hs with ⟨h,rfl⟩ | ⟨h,rfl⟩
 ·rw [if_pos h,hl]; rfl
 rw [if_neg h,hl]; rfl
theorem wY {l sg w z:List UInt8} (hl:l=sg++(w++z)) (hs:(l.head?=some 45∧sg=[45])∨(l.head?≠some 45∧sg=[])) (hw:w.all ah=true) (hz:stops ah z=true)
  (h:w=[]∨jI z=none):cx l=(0,4):=by
 have hu:=vu hl hs
 obtain ⟨h1,h2⟩:=cg ah w z (fun b hb=>List.all_eq_true.1 hw b hb) hz
 rcases h with rfl | h
 ·exact kL (by rw [hu]; exact h1)
 exact mE (by rw [hu,h2]; exact h)
def jr (P:Nat):List UInt8→Nat
 | []=>P
 | b::r=>if b=46 then P+1+(r.takeWhile ah).length else P
theorem qU {p:List UInt8} (h:(p.takeWhile ah).length=p.length):p.all ah=true:=by
 obtain ⟨e,hw,-⟩:=br ah p
 have h2:p.takeWhile ah=p:=by
  have h3:=congrArg List.length e
  rw [List.length_append] at h3
  have:p.dropWhile ah=[]:=List.length_eq_zero_iff.1 (by omega)
  rw [this,List.append_nil] at e
  exact e.symm
 rw [h2] at hw
 exact List.all_eq_true.2 hw
theorem vY {z:List UInt8} {P:Nat} (h1:jr P z=P+z.length) (h2:jr P z≠P+1):∃ p,(z=[]∧p=[]∨(z=46::p∧p≠[]∧p.all ah=true)):=by
 cases z with
 | nil=>exact ⟨[],.inl ⟨rfl,rfl⟩⟩
 | cons b r =>
  by_cases hb:b=46
  ·subst hb
   have e:jr P (46::r)=P+1+(r.takeWhile ah).length:=by simp [jr]
   rw [e,List.length_cons] at h1
   rw [e] at h2
   refine ⟨r,.inr ⟨rfl,?_,qU (by omega)⟩⟩
   rintro rfl
   exact h2 rfl
  have e:jr P (b::r)=P:=if_neg hb
  rw [e,List.length_cons] at h1
  omega
theorem oU {z:List UInt8} {P:Nat} (h:jr P z≠P+z.length∨jr P z=P+1):jI z=none:=by
 cases z with
 | nil =>
  rcases h with h | h
  ·exact absurd rfl h
  have:P=P+1:=h
  omega
 | cons b r =>
  by_cases hb:b=46
  ·subst hb
   have e:jr P (46::r)=P+1+(r.takeWhile ah).length:=by simp [jr]
   rw [e,List.length_cons] at h
   refine if_neg ?_
   rintro ⟨-,h3,h4⟩
   have h5:r.takeWhile ah=r:=by
    have:=(cg ah r [] (fun b hb=>List.all_eq_true.1 h4 b hb) rfl).1
    rwa [List.append_nil] at this
   rw [h5] at h
   have:=List.length_pos_iff.2 h3
   omega
  exact if_neg fun g=>hb g.1
theorem vX {l sg w z p : List UInt8} {f i : Nat} (hl : l = sg ++ (w ++ z)) (hs : sg.length = f) (hw : w.all ah = true) (hz : z = [] ∧ p = [] ∨ (z = 46 :: p ∧ p ≠ [] ∧ p.all ah = true)) (h1 : f ≤ i) (h3 : i ≠ f + w.length) (h : i < l.length) : ah (l[i]'h) = true:=by
 have hi:l[i]?=some l[i]:=List.getElem?_eq_getElem h
 have hlen:=congrArg List.length hl
 rw [List.length_append,List.length_append] at hlen
 by_cases hw2:i<f+w.length
 ·have e:l[i]?=w[i - f]?:=by rw [hl,List.getElem?_append_right (by omega),hs,List.getElem?_append_left (by omega)]
  rw [hi,List.getElem?_eq_getElem (by omega)] at e
  rw [Option.some.inj e]
  exact List.all_eq_true.1 hw _ (List.getElem_mem _)
 rcases hz with ⟨rfl,-⟩ | ⟨rfl,-,hp⟩
 ·rw [List.length_nil] at hlen; omega
 rw [List.length_cons] at hlen
 have e:l[i]?=p[i - f - w.length - 1]?:=by
  rw [hl,List.getElem?_append_right (by omega),hs,List.getElem?_append_right (by omega)]
  rw [show i - f - w.length=(i - f - w.length - 1)+1 by omega,List.getElem?_cons_succ]; rfl
 rw [hi,List.getElem?_eq_getElem (by omega)] at e
 rw [Option.some.inj e]
 exact List.all_eq_true.1 hp _ (List.getElem_mem _)
theorem wF (w p:List UInt8) (f P i:Nat):gA (gX w p) f P i≤it w p:=by
 have:=wR (gX w p) f P i
 unfold it
 unfold gX at this ⊢
 omega
theorem oc (s:ByteArray) (hs:s.size≤4611686018427387904) (w:World) :
  Calls prog 81 #[.string s] w fun e w'=>e=.returned (.tuple #[.int .i64 (cx s.data.toList).1,.int .i64 (cx s.data.toList).2])∧Below w.heap.size w w':=by
 have hl:s.data.toList.length=s.size:=Array.length_toList
 have hat : ∀ (i : Nat) (h : i < s.size),s.data.toList[i]? = some (s[i]'h):=fun i h => by
  rw [List.getElem?_eq_getElem (by omega)]; rfl
 obtain ⟨sg,W,z,hcut,hsg,hw,hz⟩:=sY s.data.toList
 obtain ⟨f,hf⟩:=ex (sg.length)
 obtain ⟨P,hP⟩:=ex (f+W.length)
 obtain ⟨E,hE⟩:=ex (jr P z)
 have hlen:s.size=P+z.length:=by
  rw [← hl,hcut,List.length_append,List.length_append,hf]; omega
 have hdf:s.data.toList.drop f=W++z:=by rw [hcut,← hf,List.drop_left]
 have hdp:s.data.toList.drop P=z:=by rw [← hP,← List.drop_drop,hdf,List.drop_left]
 have hrun:=cg ah W z (fun b hb=>List.all_eq_true.1 hw b hb) hz
 have HD1:=keep (fun W'=>iT s hs f (by omega) W')
 rw [hdf,hrun.1,hP] at HD1
 have HD2:=keep (fun (h:P+1≤s.size) W'=>iT s hs (P+1) h W')
 have HPZ:=keep (show ∀ h : P < s.size,∃ r,z = s[P]'h :: r ∧ s.data.toList.drop (P + 1) = r from fun h => by
  refine ⟨_,?_,rfl⟩
  rw [← hdp]
  have h9:P<s.data.toList.length:=by omega
  rw [List.drop_eq_getElem_cons h9]; rfl)
 have HSG:=keep (show (∃ h : 0 < s.size,((s[0]'h).toNat : Int) = 45 ∧ f = 1) ∨ (f = 0 ∧ ∀ h : 0 < s.size,((s[0]'h).toNat : Int) ≠ 45) from by
  rcases hsg with ⟨h1,h2⟩ | ⟨h1,h2⟩
  ·left
   have h0:0<s.size:=by
    rcases Nat.eq_zero_or_pos s.size with h | h
    ·rw [List.length_eq_zero_iff.1 (by omega:s.data.toList.length=0)] at h1; cases h1
    exact h
   refine ⟨h0,?_,by rw [← hf,h2]; rfl⟩
   rw [List.head?_eq_getElem?,hat 0 h0] at h1
   rw [Option.some.inj h1]; rfl
  right
  refine ⟨by rw [← hf,h2]; rfl,fun h0 h=>h1 ?_⟩
  rw [List.head?_eq_getElem?,hat 0 h0]
  have : s[0]'h0 = 45:=UInt8.toNat_inj.1 (by show _ = 45; omega)
  rw [this])
 have HBAD:=keep (fun h=>wY hcut hsg hw hz h)
 have HNEG:=keep (show (f=1∧s.data.toList.head?=some 45)∨(f=0∧s.data.toList.head?≠some 45) from by
  rcases hsg with ⟨h1,h2⟩ | ⟨h1,h2⟩
  ·exact .inl ⟨by rw [← hf,h2]; rfl,h1⟩
  exact .inr ⟨by rw [← hf,h2]; rfl,h1⟩)
 have hfP:f≤P:=by omega
 have hf1:f≤1:=by rcases HNEG.out with h | h <;> omega
 have hPs:P≤s.size:=by omega
 have hWP:W=[]↔P=f:=by rw [← List.length_eq_zero_iff]; omega
 have HWP:=keep hWP
 have HEE:=keep hE
 have HLEN:=keep hlen
 have HCUT:=keep hcut
 have HF:=keep hf
 have HSGN:=keep hsg
 have HWD:=keep hw
 have HPP:=keep hP
 have HAT:=keep hat
 clear hl hat hcut hsg hw hz hf hP hE hlen hdf hdp hrun hWP
 obtain ⟨V,hV⟩:=ex (cx s.data.toList)
 have HV:=keep hV
 rw [hV]
 clear hV
 have H0:=Lib.hid (Ok.start w)
 go_enter func81,ntmps81
 obtain ⟨B1,hB1⟩:∃ B:Bool,B=decide (f=1):=⟨_,rfl⟩
 go_upto_region 2 with fail
 go_cut [19] (fun v wx=>v=.bool B1∧wx=w)
 case first =>
  rcases HSG.out with ⟨h0,h45,h1⟩ | ⟨h1,h45⟩
  ·have hsz:(s.size:Int)>0:=by omega
   have ht : (((s[0]'h0).toNat : Int) == 45) = true:=by rw [h45]; rfl
   obtain rfl:B1=true:=by rw [hB1,h1]; rfl
   clear h45 hB1
   go_wp2_with fail
   go_meet
   exact ⟨rfl,rfl⟩
  obtain rfl:B1=false:=by rw [hB1,h1]; rfl
  by_cases h0:0<s.size
  ·have hsz:(s.size:Int)>0:=by omega
   have ht : (((s[0]'h0).toNat : Int) == 45) = false:=beq_eq_false_iff_ne.2 (h45 h0)
   clear h45 hB1
   go_wp2_with fail
   go_meet
   exact ⟨rfl,rfl⟩
  have hsz:¬ ((s.size:Int)>0):=by omega
  clear h45 hB1
  go_wp2_with fail
  go_meet
  exact ⟨rfl,rfl⟩
 obtain ⟨rfl,hwc⟩:=hcut
 obtain rfl:w=wc:=hwc.symm
 go_upto_if 19 with fail
 go_cut [4] (fun v wx=>v=.int .i64 (f:Int)∧wx=w)
 case first =>
  cases B1
  ·have h1:f=0:=by have:=(decide_eq_false_iff_not.1 hB1.symm); omega
   clear hB1
   go_wp2_with fail
   go_meet
   exact ⟨by rw [h1]; rfl,rfl⟩
  have h1:f=1:=of_decide_eq_true hB1.symm
  clear hB1
  go_wp2_with fail
  go_meet
  exact ⟨by rw [h1]; rfl,rfl⟩
 case rest =>
  clear hB1
  obtain ⟨rfl,hwc⟩:=hcut
  obtain rfl:w=wc:=hwc.symm
  go_wp2_with fail
  refine (HD1.out _).mono ?_
  rintro e w1 ⟨rfl,hw1⟩
  obtain rfl:w=w1:=hw1.symm
  obtain ⟨B2,hB2⟩ : ∃ B : Bool,B = decide (∃ h : P < s.size,s[P]'h = 46):=⟨_,rfl⟩
  go_upto_region 6 with fail
  go_cut [33] (fun v wx=>v=.bool B2∧wx=w)
  case first =>
   by_cases hp:P<s.size
   ·have hpi:(P:Int)<(s.size:Int):=by omega
    by_cases h46 : s[P]'hp = 46
    ·have ht : (((s[P]'hp).toNat : Int) == 46) = true:=by rw [h46]; rfl
     obtain rfl:B2=true:=by rw [hB2]; exact decide_eq_true ⟨hp,h46⟩
     clear h46 hB2
     go_wp2_with fail
     go_meet
     exact ⟨rfl,rfl⟩
    have ht : (((s[P]'hp).toNat : Int) == 46) = false:=beq_eq_false_iff_ne.2 fun e => h46 (UInt8.toNat_inj.1 (by show _ = 46; omega))
    obtain rfl:B2=false:=by rw [hB2]; exact decide_eq_false fun h=>h46 h.2
    clear h46 hB2
    go_wp2_with fail
    go_meet
    exact ⟨rfl,rfl⟩
   have hpi:¬ ((P:Int)<(s.size:Int)):=by omega
   obtain rfl:B2=false:=by rw [hB2]; exact decide_eq_false fun h=>hp h.1
   clear hB2
   go_wp2_with fail
   go_meet
   exact ⟨rfl,rfl⟩
  obtain ⟨rfl,hwc⟩:=hcut
  obtain rfl:w=wc:=hwc.symm
  go_upto_if 33 with fail
  go_cut [6] (fun v wx=>v=.int .i64 (E:Int)∧wx=w)
  case first =>
   cases B2
   ·have HEV:=keep (show (E:Int)=P from by
     have hn:=decide_eq_false_iff_not.1 hB2.symm
     by_cases hp:P<s.size
     ·obtain ⟨r,hr1,-⟩:=HPZ.out hp
      have:E=P:=by rw [← HEE.out,hr1]; exact if_neg fun e=>hn ⟨hp,e⟩
      rw [this]
     have h9:z=[]:=List.length_eq_zero_iff.1 (by have:=HLEN.out; omega)
     have:E=P:=by rw [← HEE.out,h9]; rfl
     rw [this])
    clear hB2
    go_wp2_with fail
    go_meet
    exact ⟨by rw [HEV.out],rfl⟩
   obtain ⟨hp,h46⟩:=of_decide_eq_true hB2.symm
   obtain ⟨r,hr1,hr2⟩:=HPZ.out hp
   have HEV:=keep (show P+1+((s.data.toList.drop (P+1)).takeWhile ah).length=E from by
    rw [← HEE.out,hr1,h46,hr2]
    simp [jr])
   have HD3:=keep (fun W'=>HD2.out (by omega) W')
   rw [HEV.out] at HD3
   clear h46 hr1 hr2 hB2
   go_wp2_with fail
   refine (HD3.out _).mono ?_
   rintro e w1 ⟨rfl,hw1⟩
   obtain rfl:w=w1:=hw1.symm
   go_wp2_with fail
   go_meet
   exact ⟨rfl,rfl⟩
  case rest =>
   clear hB2
   obtain ⟨rfl,hwc⟩:=hcut
   obtain rfl:w=wc:=hwc.symm
   by_cases c1:P=f
   ·have ht:((P:Int) == (f:Int))=true:=by simp; omega
    have HR:=keep (HV.out.symm.trans (HBAD.out (.inl (HWP.out.2 c1))))
    clear c1
    go_wp2_with fail
    exact bodyPost_ret (v:=.tuple #[.int .i64 0,.int .i64 4]) (by simp [results,results81,go_sem]) rfl ⟨by rw [HR.out],H0.out.bel⟩
   have ht1:((P:Int) == (f:Int))=false:=by simp; omega
   by_cases c2:E=s.size
   rotate_left
   ·have ht:((E:Int) != (s.size:Int))=true:=by simp; omega
    have HR:=keep (HV.out.symm.trans (HBAD.out (.inr (oU (P:=P) (.inl (by rw [HEE.out]; have:=HLEN.out; omega))))))
    clear c1 c2
    go_wp2_with fail
    exact bodyPost_ret (v:=.tuple #[.int .i64 0,.int .i64 4]) (by simp [results,results81,go_sem]) rfl ⟨by rw [HR.out],H0.out.bel⟩
   have ht2:((E:Int) != (s.size:Int))=false:=by simp; omega
   have hwp1:IntKind.i64.wrap ((P:Int)+1)=(P:Int)+1:=Go.IntWalk.i64_in _ (by omega)
   by_cases c3:E=P+1
   ·have ht:((E:Int) == (P:Int)+1)=true:=by simp; omega
    have HR:=keep (HV.out.symm.trans (HBAD.out (.inr (oU (P:=P) (.inr (by rw [HEE.out]; exact c3))))))
    clear c1 c2 c3
    go_wp2_with fail
    exact bodyPost_ret (v:=.tuple #[.int .i64 0,.int .i64 4]) (by simp [results,results81,go_sem]) rfl ⟨by rw [HR.out],H0.out.bel⟩
   have ht3:((E:Int) == (P:Int)+1)=false:=by simp; omega
   obtain ⟨p,hzp⟩:=vY (z:=z) (P:=P) (by rw [HEE.out]; have:=HLEN.out; omega) (by rw [HEE.out]; exact c3)
   have hzp2:z=[]∧p=[]∨z=46::p:=hzp.imp id fun h=>h.1
   obtain ⟨M,hM⟩:=ex (it W p)
   have HPAR:=keep (HV.out.symm.trans (wZ HCUT.out HSGN.out HWD.out hzp (fun e=>c1 (HWP.out.1 e)) hM))
   obtain ⟨Q,hQ⟩:∃ Q:Nat→Nat,(fun i=>gA (gX W p) f P i)=Q:=⟨_,rfl⟩
   have hQ2:∀ i,Q i=gA (gX W p) f P i:=fun i=>by rw [← hQ]
   have HQ0:=keep (show Q f=0 from by rw [hQ2]; exact qi _ _ _ hfP)
   have HQP:=keep (show Q (P+1)=Q P from by rw [hQ2,hQ2]; exact qh _ _ _ hfP)
   have HQS:=keep (show ∀ i,f≤i→i<P+5→i≠P→Q (i+1)=10 * Q i+nq s.data.toList i from fun i h1 h2 h3=>by
    rw [hQ2,hQ2,← HPP.out]
    exact rM HCUT.out HF.out hzp2 h1 (by rw [HPP.out]; exact h2) (by rw [HPP.out]; exact h3))
   have HQM:=keep (show ∀ i,Q i≤M from fun i=>by rw [hQ2,← hM]; exact wF ..)
   have HQE:=keep (show M=Q (P+5)+if 53≤(s.data.toList[P+5]?.getD 48).toNat then 1 else 0 from by
    rw [hQ2,← HPP.out,uY,← hM]
    unfold it
    rw [yD HCUT.out HF.out hzp2]
    simp only [decide_eq_true_eq]
    rfl)
   have HDG:=keep (show ∀ i,f ≤ i → i ≠ P → ∀ h : i < s.size,48 ≤ (s[i]'h).toNat ∧ (s[i]'h).toNat ≤ 57 ∧ nq s.data.toList i = (s[i]'h).toNat - 48 from fun i h1 h2 h => by
    have h9:=vX HCUT.out HF.out HWD.out hzp h1 (by rw [HPP.out]; exact h2) (show i<s.data.toList.length by rw [Array.length_toList]; exact h)
    have h8 : ah (s[i]'h) = true:=h9
    unfold ah at h8
    rw [decide_eq_true_eq] at h8
    refine ⟨h8.1,h8.2,?_⟩
    unfold nq
    rw [HAT.out i h]; rfl)
   have HDN:=keep (show ∀ i,¬ i<s.size→nq s.data.toList i=0 from fun i h=>by
    unfold nq
    rw [List.getElem?_eq_none (by rw [Array.length_toList]; show s.size≤i; omega)]; rfl)
   have HUPN:=keep (show ¬ P+5<s.size→s.data.toList[P+5]?.getD 48=48 from fun h=>by
    rw [List.getElem?_eq_none (by rw [Array.length_toList]; show s.size≤P+5; omega)]; rfl)
   have HUPY:=keep (show ∀ h : P + 5 < s.size,s.data.toList[P + 5]?.getD 48 = s[P + 5]'h from fun h => by rw [HAT.out _ h]; rfl)
   clear hzp hzp2 hQ hQ2 hM c1 c2 c3
   go_upto_region 11 with fail
   have H1:=Lib.hid (H0.out.var w.heap.size 158 [.int .u64 0,.int .u64 0] rfl)
   clear H0
   generalize (w.alloc (.cells #[.int .u64 0,.int .u64 0] 158))=W2 at H1 ⊢
   have F3:=sE H1
   go_wp2_with fail
   go_loopw [8] (fun iv wr=>∃ i N:Nat,f≤i∧i≤P+5∧iv=.int .i64 (i:Int)∧ao (Q i=N)∧N≤92233720368547758079∧Hid (Ok w [af (w.heap.size) 158 [.int .u64 ((N / 18446744073709551616:Nat):Int),.int .u64 ((N % 18446744073709551616:Nat):Int)]] wr)) (fun iv _=>P+5 - (intOf iv).toNat)
   case atStart=>exact ⟨f,0,Nat.le_refl _,by omega,rfl,HQ0,by omega,H1⟩
   case round =>
    clear H1
    obtain ⟨i,N,hi1,hi2,rfl,HQI,hN,HR⟩:=hrel
    obtain ⟨wq,rfl⟩:∃ wq:World,wq=wr:=⟨_,rfl⟩
    have hwp5:IntKind.i64.wrap ((P:Int)+5)=(P:Int)+5:=Go.IntWalk.i64_in _ (by omega)
    obtain ⟨h,hh⟩:=ex (N / 18446744073709551616)
    obtain ⟨l,hl⟩:=ex (N % 18446744073709551616)
    have HRN:=HR
    rw [hh,hl] at HR
    by_cases hlt:(i:Int)<(P:Int)+5
    ·obtain ⟨d,hd⟩:∃ d:Nat,(if i=P then 0 else nq s.data.toList i)=d:=⟨_,rfl⟩
     have HDD:=keep hd
     have hd9:d≤9:=by
      rw [← hd]
      split
      ·omega
      rename_i hne
      by_cases h9:i<s.size
      ·have:=HDG.out i hi1 hne h9; omega
      rw [HDN.out i h9]; omega
     obtain ⟨B3,hB3⟩:∃ B:Bool,B=decide (i≠P∧i<s.size):=⟨_,rfl⟩
     go_upto_region 15 with fail
     go_cut [69] (fun v wx=>v=.bool B3∧wx=wq)
     case first =>
      by_cases hip:i=P
      ·have ht:((i:Int) != (P:Int))=false:=by simp; omega
       obtain rfl:B3=false:=by rw [hB3]; exact decide_eq_false fun h=>h.1 hip
       clear hip hB3 hd
       go_wp2_with fail
       go_meet
       exact ⟨rfl,rfl⟩
      have ht:((i:Int) != (P:Int))=true:=by simp; omega
      obtain rfl:B3=decide (i<s.size):=by
       rw [hB3]
       by_cases h9:i<s.size
       ·rw [decide_eq_true (⟨hip,h9⟩:i≠P∧i<s.size),decide_eq_true h9]
       rw [decide_eq_false fun h=>h9 h.2,decide_eq_false h9]
      clear hip hB3 hd
      go_wp2_with fail
      go_meet
      exact ⟨rfl,rfl⟩
     obtain ⟨rfl,hwc⟩:=hcut
     obtain rfl:wq=wc:=hwc.symm
     go_upto_if 69 with fail
     go_cut [9] (fun v wx=>v=.int .u64 (d:Int)∧wx=wq)
     case first =>
      cases B3
      ·obtain rfl:d=0:=by
        have hn:=decide_eq_false_iff_not.1 hB3.symm
        rw [← hd]
        split
        ·rfl
        rename_i hne
        exact HDN.out i fun h=>hn ⟨hne,h⟩
       clear hB3 hd
       go_wp2_with fail
       go_meet
       exact ⟨rfl,rfl⟩
      obtain ⟨hip,h9⟩:=of_decide_eq_true hB3.symm
      rw [if_neg hip] at hd
      have hsz:(i:Int)<(s.size:Int):=by omega
      obtain ⟨g1,g2,g3⟩:=HDG.out i hi1 hip h9
      have hu : IntKind.u8.wrap (((s[i]'h9).toNat : Int) - 48) = (d : Int):=by rw [Go.IntWalk.u8_in _ (by omega)]; omega
      have hv:IntKind.u64.wrap (d:Int)=(d:Int):=Go.IntWalk.u64_in _ (by omega)
      clear hip hd g1 g2 g3 hB3
      go_wp2_with fail
      go_meet
      exact ⟨rfl,rfl⟩
     case rest =>
      clear hB3
      obtain ⟨rfl,hwc⟩:=hcut
      obtain rfl:wq=wc:=hwc.symm
      by_cases hbig:9223372036854775807<N
      ·have HR3:=keep (show V=(0,3) from by
        rw [HPAR.out]
        exact if_neg (by have:=HQM.out i; rw [HQI.out] at this; unfold aD; omega))
       by_cases h0:h=0
       ·subst h0
        have hg:(l:Int)>9223372036854775807:=by omega
        clear hh hl hbig hd
        have F4:=sE HR
        go_wp2_with fail
        exact bodyPost_ret (v:=.tuple #[.int .i64 0,.int .i64 3]) (by simp [results,results81,go_sem]) rfl ⟨by rw [HR3.out],HR.out.bel⟩
       have hg:((h:Int) != 0)=true:=bne_iff_ne.2 (by omega)
       clear hh hl hbig h0 hd
       have F4:=sE HR
       go_wp2_with fail
       exact bodyPost_ret (v:=.tuple #[.int .i64 0,.int .i64 3]) (by simp [results,results81,go_sem]) rfl ⟨by rw [HR3.out],HR.out.bel⟩
      obtain rfl:h=0:=by omega
      obtain rfl:N=l:=by omega
      have hg:¬ ((N:Int)>9223372036854775807):=by omega
      clear hh hl
      by_cases hip:i=P
      ·subst hip
       have ht:((i:Int) != (i:Int))=false:=by simp
       have F4:=sE HR
       go_wp2_with fail
       go_roundw
       case rel=>exact ⟨i+1,N,by omega,by omega,by go_num,keep (HQP.out.trans HQI.out),by omega,HRN⟩
       case measure=>first | (simp [intOf]; done) | (simp [intOf]; omega)
      have ht:((i:Int) != (P:Int))=true:=by simp; omega
      have HN2:=keep (show Q (i+1)=10 * N+d from by rw [HQS.out i hi1 (by omega) hip,HQI.out,← HDD.out,if_neg hip])
      obtain ⟨N2,hN2⟩:=ex (10 * N+d)
      obtain ⟨x,hx⟩:=ex (N2 / 18446744073709551616)
      obtain ⟨y,hy⟩:=ex (N2 % 18446744073709551616)
      obtain ⟨x0,hx0⟩:∃ x,10 * N / 18446744073709551616=x:=⟨_,rfl⟩
      obtain ⟨y0,hy0⟩:∃ y,10 * N % 18446744073709551616=y:=⟨_,rfl⟩
      have HT1:=keep (fun W'=>rW N (by omega) W')
      rw [hx0,hy0] at HT1
      have HT2:=keep (fun W'=>fY x0 y0 0 d x y (by omega) (by omega) (by omega) W')
      have hN3:N2≤92233720368547758079:=by omega
      clear hip hd HRN
      have F4:=sE HR
      go_wp2_with fail
      refine cM (HT1.out _) HR fun w5 H7=>?_
      clear F4 HR
      have F8:=sE H7
      go_wp2_with fail
      refine cM (HT2.out _) H7 fun w9 H11=>?_
      clear F8 H7
      have F12:=sE H11
      go_wp2_with fail
      have H13:=Lib.hid (H11.out.drop [af (w.heap.size) 158 [.int .u64 0,.int .u64 (N:Nat)]] (by simp))
      have hfar:∀ x∈([]:List aS),x.far (some (w.heap.size)):=by simp
      have H14:Hid (Ok w [af (w.heap.size) 158 [.int .u64 (x:Nat),.int .u64 (y:Nat)]] ((w9.setCell ⟨w.heap.size,0,none⟩ (.int .u64 (x:Nat))).setCell ⟨w.heap.size,1,none⟩ (.int .u64 (y:Nat)))):=((H13.out.set_ (i:=0) (u:=.int .u64 (x:Nat)) (by omega) hfar).set_ (i:=1) (u:=.int .u64 (y:Nat)) (by omega) hfar)
      clear F12
      clear H11 H13 hfar
      generalize ((w9.setCell ⟨w.heap.size,0,none⟩ (.int .u64 (x:Nat))).setCell ⟨w.heap.size,1,none⟩ (.int .u64 (y:Nat)))=W15 at H14 ⊢
      go_roundw
      case rel=>exact ⟨i+1,N2,by omega,by omega,by go_num,keep (HN2.out.trans hN2),by omega,(by rw [hx,hy]; exact H14)⟩
      case measure=>first | (simp [intOf]; done) | (simp [intOf]; omega)
    obtain rfl:i=P+5:=by omega
    have HQ5:=keep (HQE.out.trans (by rw [HQI.out]))
    have hw15:(((P+5:Nat):Nat):Int)=(P:Int)+5:=by omega
    have HPL:=keep (fun (g:N+1≤92233720368547758081) W'=>fY (N / 18446744073709551616:Nat) (N % 18446744073709551616:Nat) 0 1 ((N+1) / 18446744073709551616:Nat) ((N+1) % 18446744073709551616:Nat) (by omega) (by omega) (by omega) W')
    rw [hh,hl] at HPL
    obtain ⟨B4,hB4⟩ : ∃ B : Bool,B = decide (∃ h : P + 5 < s.size,53 ≤ (s[P + 5]'h).toNat):=⟨_,rfl⟩
    go_upto_region 21 with fail
    go_cut [103] (fun v wx=>v=.bool B4∧wx=wq)
    case first =>
     by_cases h5:P+5<s.size
     ·have hsz:(P:Int)+5<(s.size:Int):=by omega
      obtain rfl : B4 = decide (53 ≤ ((s[P + 5]'h5).toNat : Int)):=by
       rw [hB4]
       by_cases h53 : 53 ≤ (s[P + 5]'h5).toNat
       ·rw [decide_eq_true (⟨h5,h53⟩ : ∃ h : P + 5 < s.size,53 ≤ (s[P + 5]'h).toNat),decide_eq_true (by omega)]
       rw [decide_eq_false fun h=>h53 h.2,decide_eq_false (by omega)]
      clear hB4
      go_wp2_with fail
      go_meet
      exact ⟨rfl,rfl⟩
     have hsz:¬ ((P:Int)+5<(s.size:Int)):=by omega
     obtain rfl:B4=false:=by rw [hB4]; exact decide_eq_false fun h=>h5 h.1
     clear hB4
     go_wp2_with fail
     go_meet
     exact ⟨rfl,rfl⟩
    obtain ⟨rfl,hwc⟩:=hcut
    obtain rfl:wq=wc:=hwc.symm
    go_upto_if 103 with fail
    go_cut [] (fun wx=>Hid (Ok w [af (w.heap.size) 158 [.int .u64 ((M / 18446744073709551616:Nat):Int),.int .u64 ((M % 18446744073709551616:Nat):Int)]] wx))
    case first =>
     cases B4
     ·obtain rfl:M=N:=by
       have hn:=decide_eq_false_iff_not.1 hB4.symm
       rw [HQ5.out]
       by_cases h5:P+5<s.size
       ·rw [HUPY.out h5,if_neg fun h=>hn ⟨h5,h⟩]; rfl
       rw [HUPN.out h5]; rfl
      clear hh hl hB4
      have F4:=sE HR
      go_wp2_with fail
      go_meet
      exact HRN
     obtain ⟨h5,h53⟩:=of_decide_eq_true hB4.symm
     obtain rfl:M=N+1:=by rw [HQ5.out,HUPY.out h5,if_pos h53]
     have hN1:N+1≤92233720368547758081:=by omega
     obtain ⟨x,hx⟩:=ex ((N+1) / 18446744073709551616)
     obtain ⟨y,hy⟩:=ex ((N+1) % 18446744073709551616)
     rw [hx,hy] at HPL
     clear hh hl HRN hB4
     have F4:=sE HR
     go_wp2_with fail
     refine cM (HPL.out hN1 _) HR fun w5 H7=>?_
     clear F4 HR
     have F8:=sE H7
     go_wp2_with fail
     have H9:=Lib.hid (H7.out.drop [af (w.heap.size) 158 [.int .u64 (h:Nat),.int .u64 (l:Nat)]] (by simp))
     have hfar:∀ x∈([]:List aS),x.far (some (w.heap.size)):=by simp
     have H10:Hid (Ok w [af (w.heap.size) 158 [.int .u64 (x:Nat),.int .u64 (y:Nat)]] ((w5.setCell ⟨w.heap.size,0,none⟩ (.int .u64 (x:Nat))).setCell ⟨w.heap.size,1,none⟩ (.int .u64 (y:Nat)))):=((H9.out.set_ (i:=0) (u:=.int .u64 (x:Nat)) (by omega) hfar).set_ (i:=1) (u:=.int .u64 (y:Nat)) (by omega) hfar)
     clear F8
     clear H7 H9 hfar
     generalize ((w5.setCell ⟨w.heap.size,0,none⟩ (.int .u64 (x:Nat))).setCell ⟨w.heap.size,1,none⟩ (.int .u64 (y:Nat)))=W11 at H10 ⊢
     go_meet
     rw [hx,hy]
     exact H10
    case rest =>
     clear hB4
     clear HR HRN HQ5
     have HM:=hcut
     clear hcut hh hl
     have hMM:M≤1000000000000000000000:=by have:=HQE.out; rw [HQI.out] at this; split at this <;> omega
     have HS1:=keep (fun b W'=>mN M hMM b W')
     obtain ⟨x,hx⟩:=ex (M / 18446744073709551616)
     obtain ⟨y,hy⟩:=ex (M % 18446744073709551616)
     rw [hx,hy] at HS1 HM
     have HFN:=keep (show ((f:Int) == 1)=decide (s.data.toList.head?=some 45) from by
      rcases HNEG.out with ⟨rfl,h⟩ | ⟨rfl,h⟩
      ·rw [decide_eq_true h]; rfl
      rw [decide_eq_false h]; rfl)
     obtain ⟨B,hB⟩:=ex (decide (s.data.toList.head?=some 45))
     rw [hB] at HFN
     have hfn:=HFN.out
     have HBB:=keep hB
     clear hx hy hB
     have F4:=sE HM
     go_wp2_with fail
     refine cM (HS1.out B _) HM fun w5 H7=>?_
     clear F4 HM
     have F8:=sE H7
     by_cases hbig:M≤9223372036854775807
     ·rw [if_pos hbig,decide_eq_true hbig]
      obtain ⟨R,hR⟩:∃ R:Int,(if B=true then -(M:Int) else M)=R:=⟨_,rfl⟩
      rw [hR]
      have HRS:=keep (show V=(R,0) from by
       rw [HPAR.out,if_pos (by unfold aD; omega),← hR,← HBB.out]
       simp only [decide_eq_true_eq])
      clear hR
      go_wp2_with fail
      exact bodyPost_ret (v:=.tuple #[.int .i64 R,.int .i64 0]) (by simp [results,results81,go_sem]) rfl ⟨by rw [HRS.out],H7.out.bel⟩
     rw [if_neg hbig,decide_eq_false hbig]
     have HRS:=keep (show V=(0,3) from by rw [HPAR.out]; exact if_neg (by unfold aD; omega))
     go_wp2_with fail
     exact bodyPost_ret (v:=.tuple #[.int .i64 0,.int .i64 3]) (by simp [results,results81,go_sem]) rfl ⟨by rw [HRS.out],H7.out.bel⟩
