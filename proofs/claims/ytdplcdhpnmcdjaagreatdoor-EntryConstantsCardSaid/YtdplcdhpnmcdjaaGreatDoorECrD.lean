/- The reference: what an input means that is no formula (louvreref11.constant). Plain: what the reference's Constant (louvreref11) asks of a text, against constC. No program stands here. entry.Canonical. known of chapter 11. -/
import Derived.Test.YtdplcdhpnmcdjaaGreatDoorETxt
import Derived.Test.YtdplcdhpnmcdjaaGreatDoorETg
import Derived.Test.YtdplcdhpnmcdjaaGreatDoorECrC
import Derived.Test.YtdplcdhpnmcdjaaGreatDoorETxv
import Derived.Deep.DeepCutAuto
import Derived.Test.YtdplcdhpnmcdjaaGreatDoorEShc
namespace Go.Proofs.YtdplcdhpnmcdjaaGreatDoor
set_option maxRecDepth 100000
set_option maxHeartbeats 8000000
open Go.RowKit Go.Proofs.Tryz
theorem sS:be []=(0,0,[]):=rfl
theorem x9 {l:List UInt8} (h0:l≠[]):∀ j,j<1→(bh j l).2=false:=fun j hj=>by
 obtain rfl:j=0:=by omega
 show l.isEmpty=false
 cases l with
 | nil=>exact absurd rfl h0
 | cons=>rfl
theorem sQ {l:List UInt8} (h0:l≠[]) (h1:l.head?=some 39):be l=(3,0,l.tail):=by
 obtain ⟨e1,e2⟩:=li (l:=l) (c:=39)
 rw [dI (k:=1) (by decide) (x9 h0) (by show Lib.hasPrefix l [39]=true; rw [e1,decide_eq_true h1])]
 show (3,0,Lib.trimPrefix l [39])=_
 rw [e2 h1]
theorem wQ {l:List UInt8} (h0:l≠[]) (h1:l.head?≠some 39):∀ j,j<2→(bh j l).2=false:=fun j hj=>by
 rcases (show j<1∨j=1 by omega) with h | rfl
 ·exact x9 h0 j h
 show Lib.hasPrefix l [39]=false
 rw [(li (l:=l) (c:=39)).1,decide_eq_false h1]
theorem sU {l:List UInt8} (h0:l≠[]) (h1:l.head?≠some 39) (h2:l.map upB=c6):be l=(2,1,[]):=by
 have e:bh 2 l=((2,1,[]),true):=by rw [j7,if_pos h2]
 rw [dI (k:=2) (by decide) (wQ h0 h1) (by rw [e]),e]
theorem q5 {l:List UInt8} (h0:l≠[]) (h1:l.head?≠some 39) (h2:l.map upB=cf):be l=(2,0,[]):=by
 have e:bh 2 l=((2,0,[]),true):=by rw [j7,if_neg (by rw [h2]; decide),if_pos h2]
 rw [dI (k:=2) (by decide) (wQ h0 h1) (by rw [e]),e]
theorem yS {l:List UInt8} (h0:l≠[]) (h1:l.head?≠some 39) (h2:l.map upB≠c6) (h3:l.map upB≠cf):∀ j,j<3→(bh j l).2=false:=fun j hj=>by
 rcases (show j<2∨j=2 by omega) with h | rfl
 ·exact wQ h0 h1 j h
 rw [j7,if_neg h2,if_neg h3]
theorem sP {l:List UInt8} (hn:∀ j,j<3→(bh j l).2=false) (h0:bH l≠0) (h5:bH l≤5):be l=(4,(bH l:Int),[]):=by
 have e:bh 3 l=((4,(bH l:Int),[]),true):=by rw [lR,if_neg h0,decide_eq_true h5]
 rw [dI (k:=3) (by decide) hn (by rw [e]),e]
theorem yT {l:List UInt8} (hn:∀ j,j<3→(bh j l).2=false) (h:bH l=0∨¬ bH l≤5):∀ j,j<4→(bh j l).2=false:=fun j hj=>by
 rcases (show j<3∨j=3 by omega) with g | rfl
 ·exact hn j g
 rw [lR]
 by_cases h0:bH l=0
 ·rw [if_pos h0]
 rw [if_neg h0]
 exact decide_eq_false (h.resolve_left h0)
theorem vP {l:List UInt8} (hn:∀ j,j<4→(bh j l).2=false) (h:(cx l).2=0):be l=(1,(cx l).1,[]):=by
 have e:bh 4 l=((1,(cx l).1,[]),true):=by rw [iF,if_neg (by rw [h]; decide),decide_eq_true h]
 rw [dI (k:=4) (by decide) hn (by rw [e]),e]
theorem q6 {l:List UInt8} (hn:∀ j,j<4→(bh j l).2=false) (h:(cx l).2=3):be l=(4,3,[]):=by
 have e:bh 4 l=((4,3,[]),true):=by rw [iF,if_pos h]
 rw [dI (k:=4) (by decide) hn (by rw [e]),e]
theorem sT {l:List UInt8} (hn:∀ j,j<4→(bh j l).2=false) (h0:(cx l).2≠0) (h3:(cx l).2≠3):be l=(3,0,l):=jn fun j hj=>by
 rcases (show j<4∨j=4 by omega) with g | rfl
 ·exact hn j g
 rw [iF,if_neg h3]
 exact decide_eq_false h0
theorem jO (s:ByteArray) (hs:s.size≤4611686018427387904) (w:World) :
  Calls prog 43 #[.string s] w fun e w'=>e=.returned (.agg #[.int .u8 ((be s.data.toList).1:Nat),.int .i64 (be s.data.toList).2.1,.string ⟨(be s.data.toList).2.2.toArray⟩])∧Below w.heap.size w w':=by
 have HS:=keep hs
 have HUP:=keep (fun W=>jR s W HS.out)
 have HCD:=keep (fun W=>qv s HS.out W)
 have HPA:=keep (fun W=>oc s HS.out W)
 have HPR:=keep (gB s.data.toList)
 obtain ⟨V,hV⟩:=ex (be s.data.toList)
 have HV:=keep hV
 rw [hV]
 clear hV
 have H0:=Lib.hid (Ok.start w)
 go_enter func43,ntmps43
 go_upto_region 1 with fail
 have H1:=Lib.hid (H0.out.var w.heap.size 35 [.int .u8 0,.int .i64 0,.string ⟨#[]⟩] rfl)
 clear H0
 generalize (w.alloc (.cells #[.int .u8 0,.int .i64 0,.string ⟨#[]⟩] 35))=W2 at H1 ⊢
 have F3:=sE H1
 by_cases he:s.data.toList=[]
 ·have hte:s.toList.isEmpty=true:=by rw [toL,he]; rfl
  have HR:=keep (HV.out.symm.trans ((congrArg be he).trans sS))
  clear he
  go_wp2_with fail
  have hK:=H1.out.get (af (w.heap.size) 35 [.int .u8 0,.int .i64 0,.string ⟨#[]⟩]) (by simp)
  have hB:=H1.out.bel
  have hE:=((((show Blk W2 (w.heap.size) 35 _ from hK).set_ 0 (.int .u8 0)).set_ 1 (.int .i64 0)).set_ 2 (.string ⟨#[]⟩))
  exact bodyPost_ret (v:=.agg #[.int .u8 0,.int .i64 0,.string ⟨#[]⟩]) (by simp [results,results43,go_sem,hE.cell]) rfl ⟨(by rw [HR.out]; try rfl),(sC (sC (sC hB _) _) _)⟩
 have hte:s.toList.isEmpty=false:=by
  rw [toL]
  cases h9:s.data.toList with
  | nil=>exact absurd h9 he
  | cons=>rfl
 have h0:0<s.size:=by
  have h9:=List.length_pos_iff.2 he
  rw [Array.length_toList] at h9
  exact h9
 have hh : s.data.toList.head? = some (s[0]'h0):=by
  rw [List.head?_eq_getElem?,List.getElem?_eq_getElem (by rw [Array.length_toList]; exact h0)]; rfl
 have HNE:=keep he
 clear he
 by_cases h39 : ((s[0]'h0).toNat : Int) = 39
 ·have ht : (((s[0]'h0).toNat : Int) == 39) = true:=by rw [h39]; rfl
  have hb : s[0]'h0 = 39:=UInt8.toNat_inj.1 (by show _ = 39; omega)
  obtain ⟨X,hX⟩:∃ X:ByteArray,s.extract 1 s.size=X:=⟨_,rfl⟩
  have HXD:=keep (show X=⟨s.data.toList.tail.toArray⟩ by
   rw [← hX]
   apply nt
   rw [Lib.extract_data,← List.drop_one]
   show (s.data.toList.drop 1).take (s.size - 1)=s.data.toList.drop 1
   rw [List.take_of_length_le (by rw [List.length_drop,Array.length_toList]; exact Nat.le_refl _)])
  have HR:=keep (HV.out.symm.trans (sQ HNE.out (by rw [hh,hb])))
  have hsz:(1:Int)≤(s.size:Int):=by omega
  clear h39 hb hh
  go_wp2_with fail
  try rw [hX]
  clear hX
  have hK:=H1.out.get (af (w.heap.size) 35 [.int .u8 0,.int .i64 0,.string ⟨#[]⟩]) (by simp)
  have hB:=H1.out.bel
  have hE:=((((show Blk W2 (w.heap.size) 35 _ from hK).set_ 0 (.int .u8 3)).set_ 1 (.int .i64 0)).set_ 2 (.string X))
  exact bodyPost_ret (v:=.agg #[.int .u8 3,.int .i64 0,.string X]) (by simp [results,results43,go_sem,hE.cell]) rfl ⟨(by rw [HR.out,HXD.out]; try rfl),(sC (sC (sC hB _) _) _)⟩
 have ht39 : (((s[0]'h0).toNat : Int) == 39) = false:=beq_eq_false_iff_ne.2 h39
 have HN1:=keep (show s.data.toList.head?≠some 39 from by
  rw [hh]
  intro e
  rw [Option.some.inj e] at h39
  exact h39 rfl)
 clear h39 hh
 obtain ⟨u,hu⟩:=ex (s.data.toList.map upB)
 rw [hu] at HUP
 have HU:=keep hu
 clear hu
 obtain ⟨U,hU⟩:∃ U:ByteArray,⟨u.toArray⟩=U:=⟨_,rfl⟩
 rw [hU] at HUP
 have HUL:=keep (show U.toList=u by rw [← hU,toL])
 clear hU
 go_wp2_with fail
 refine cM (HUP.out _) H1 fun w4 H6=>?_
 clear F3 H1
 have F7:=sE H6
 by_cases hT:u=c6
 ·have htT:(U.toList == [84,82,85,69])=true:=by rw [HUL.out,hT]; rfl
  have HR:=keep (HV.out.symm.trans (sU HNE.out HN1.out (HU.out.trans hT)))
  clear hT
  go_wp2_with fail
  refine cM (HUP.out _) H6 fun w8 H10=>?_
  clear F7 H6
  have F11:=sE H10
  go_wp2_with fail
  refine cM (mP _) H10 fun w12 H14=>?_
  clear F11 H10
  have F15:=sE H14
  go_wp2_with fail
  have hK:=H14.out.get (af (w.heap.size) 35 [.int .u8 0,.int .i64 0,.string ⟨#[]⟩]) (by simp)
  have hB:=H14.out.bel
  have hE:=((((show Blk w12 (w.heap.size) 35 _ from hK).set_ 0 (.int .u8 2)).set_ 1 (.int .i64 1)).set_ 2 (.string ⟨#[]⟩))
  exact bodyPost_ret (v:=.agg #[.int .u8 2,.int .i64 1,.string ⟨#[]⟩]) (by simp [results,results43,go_sem,hE.cell]) rfl ⟨(by rw [HR.out]; try rfl),(sC (sC (sC hB _) _) _)⟩
 have htT:(U.toList == [84,82,85,69])=false:=by rw [HUL.out]; exact beq_eq_false_iff_ne.2 hT
 have HNT:=keep hT
 clear hT
 go_wp2_with fail
 refine cM (HUP.out _) H6 fun w8 H10=>?_
 clear F7 H6
 have F11:=sE H10
 by_cases hF:u=cf
 ·have htF:(U.toList == [70,65,76,83,69])=true:=by rw [HUL.out,hF]; rfl
  have HR:=keep (HV.out.symm.trans (q5 HNE.out HN1.out (HU.out.trans hF)))
  clear hF
  go_wp2_with fail
  refine cM (HUP.out _) H10 fun w12 H14=>?_
  clear F11 H10
  have F15:=sE H14
  go_wp2_with fail
  refine cM (mO _) H14 fun w16 H18=>?_
  clear F15 H14
  have F19:=sE H18
  go_wp2_with fail
  have hK:=H18.out.get (af (w.heap.size) 35 [.int .u8 0,.int .i64 0,.string ⟨#[]⟩]) (by simp)
  have hB:=H18.out.bel
  have hE:=((((show Blk w16 (w.heap.size) 35 _ from hK).set_ 0 (.int .u8 2)).set_ 1 (.int .i64 0)).set_ 2 (.string ⟨#[]⟩))
  exact bodyPost_ret (v:=.agg #[.int .u8 2,.int .i64 0,.string ⟨#[]⟩]) (by simp [results,results43,go_sem,hE.cell]) rfl ⟨(by rw [HR.out]; try rfl),(sC (sC (sC hB _) _) _)⟩
 have htF:(U.toList == [70,65,76,83,69])=false:=by rw [HUL.out]; exact beq_eq_false_iff_ne.2 hF
 have HN2:=keep (yS HNE.out HN1.out (fun e=>HNT.out (HU.out.symm.trans e)) (fun e=>hF (HU.out.symm.trans e)))
 clear hF
 go_wp2_with fail
 obtain ⟨c,hc⟩:=ex (bH s.data.toList)
 have HCE:=keep (show iL s.data.toList=if c=0 then 4 else 0 by unfold iL; rw [hc])
 rw [hc,HCE.out] at HCD
 have HC:=keep hc
 clear hc
 obtain ⟨E,hE⟩:∃ E:Int,(if c=0 then 4 else 0)=E:=⟨_,rfl⟩
 rw [hE] at HCD
 refine cM (HCD.out _) H10 fun w12 H14=>?_
 clear F11 H10
 have F15:=sE H14
 by_cases hc5:c≠0∧c≤5
 ·have hE0:E=0:=by rw [← hE,if_neg hc5.1]
  subst hE0
  have hc6:(c:Int)<6:=by omega
  have HR:=keep (HV.out.symm.trans (sP HN2.out (by rw [HC.out]; exact hc5.1) (by rw [HC.out]; exact hc5.2)))
  have HFC:=keep (fun W=>gC (c:Int) (by omega) (by omega) W)
  clear hc5 hE
  go_wp2_with fail
  refine cM (HFC.out _) H14 fun w16 H18=>?_
  clear F15 H14
  have F19:=sE H18
  go_wp2_with fail
  have hK:=H18.out.get (af (w.heap.size) 35 [.int .u8 0,.int .i64 0,.string ⟨#[]⟩]) (by simp)
  have hB:=H18.out.bel
  have hE:=((((show Blk w16 (w.heap.size) 35 _ from hK).set_ 0 (.int .u8 4)).set_ 1 (.int .i64 (c:Nat))).set_ 2 (.string ⟨#[]⟩))
  exact bodyPost_ret (v:=.agg #[.int .u8 4,.int .i64 (c:Nat),.string ⟨#[]⟩]) (by simp [results,results43,go_sem,hE.cell]) rfl ⟨(by rw [HR.out,HC.out]; try rfl),(sC (sC (sC hB _) _) _)⟩
 have HN3:=keep (yT HN2.out (by rw [HC.out]; omega))
 go_upto_region 8 with fail
 go_cut [37] (fun v wx=>v=.bool false∧wx=w12)
 case first =>
  by_cases hz:c=0
  ·have hE4:E=4:=by rw [← hE,if_pos hz]
   subst hE4
   clear hE hc5 hz
   go_wp2_with fail
   go_meet
   exact ⟨rfl,rfl⟩
  have hE0:E=0:=by rw [← hE,if_neg hz]
  subst hE0
  have hc6:¬ ((c:Int)<6):=by omega
  clear hE hc5 hz
  go_wp2_with fail
  go_meet
  exact ⟨rfl,rfl⟩
 obtain ⟨rfl,hwc⟩:=hcut
 obtain rfl:w12=wc:=hwc.symm
 obtain ⟨n,e0,hp⟩:∃ n e0,cx s.data.toList=(n,e0):=⟨_,_,rfl⟩
 rw [hp] at HPA HPR
 have HP:=keep hp
 clear hp
 dsimp only at HPA HPR
 go_wp2_with fail
 refine cM (HPA.out _) H14 fun w16 H18=>?_
 clear F15 H14
 have F19:=sE H18
 by_cases h0:e0=0
 ·subst h0
  have HR:=keep (HV.out.symm.trans (vP HN3.out (by rw [HP.out])))
  have HMK:=keep (fun W=>qw n HPR.out.1 W)
  go_wp2_with fail
  refine cM (HMK.out _) H18 fun w20 H22=>?_
  clear F19 H18
  have F23:=sE H22
  go_wp2_with fail
  have hK:=H22.out.get (af (w.heap.size) 35 [.int .u8 0,.int .i64 0,.string ⟨#[]⟩]) (by simp)
  have hB:=H22.out.bel
  have hE:=((((show Blk w20 (w.heap.size) 35 _ from hK).set_ 0 (.int .u8 1)).set_ 1 (.int .i64 n)).set_ 2 (.string ⟨#[]⟩))
  exact bodyPost_ret (v:=.agg #[.int .u8 1,.int .i64 n,.string ⟨#[]⟩]) (by simp [results,results43,go_sem,hE.cell]) rfl ⟨(by rw [HR.out,HP.out]; try rfl),(sC (sC (sC hB _) _) _)⟩
 have ht0:(e0 == 0)=false:=beq_eq_false_iff_ne.2 h0
 by_cases h3:e0=3
 ·subst h3
  have HR:=keep (HV.out.symm.trans (q6 HN3.out (by rw [HP.out])))
  have HFC:=keep (fun W=>gC 3 (by decide) (by decide) W)
  clear h0 ht0
  go_wp2_with fail
  refine cM (HFC.out _) H18 fun w20 H22=>?_
  clear F19 H18
  have F23:=sE H22
  go_wp2_with fail
  have hK:=H22.out.get (af (w.heap.size) 35 [.int .u8 0,.int .i64 0,.string ⟨#[]⟩]) (by simp)
  have hB:=H22.out.bel
  have hE:=((((show Blk w20 (w.heap.size) 35 _ from hK).set_ 0 (.int .u8 4)).set_ 1 (.int .i64 3)).set_ 2 (.string ⟨#[]⟩))
  exact bodyPost_ret (v:=.agg #[.int .u8 4,.int .i64 3,.string ⟨#[]⟩]) (by simp [results,results43,go_sem,hE.cell]) rfl ⟨(by rw [HR.out]; try rfl),(sC (sC (sC hB _) _) _)⟩
 have ht3:(e0 == 3)=false:=beq_eq_false_iff_ne.2 h3
 have HR:=keep (HV.out.symm.trans (sT HN3.out (by rw [HP.out]; exact h0) (by rw [HP.out]; exact h3)))
 clear h0 h3
 go_wp2_with fail
 have hK:=H18.out.get (af (w.heap.size) 35 [.int .u8 0,.int .i64 0,.string ⟨#[]⟩]) (by simp)
 have hB:=H18.out.bel
 have hE:=((((show Blk w16 (w.heap.size) 35 _ from hK).set_ 0 (.int .u8 3)).set_ 1 (.int .i64 0)).set_ 2 (.string s))
 exact bodyPost_ret (v:=.agg #[.int .u8 3,.int .i64 0,.string s]) (by simp [results,results43,go_sem,hE.cell]) rfl ⟨(by rw [HR.out]; try rfl),(sC (sC (sC hB _) _) _)⟩
open Go.RowKit
theorem pQ {l:List UInt8} (h:aC l=0):l.all aj=true:=by
 unfold aC at h
 split at h
 ·exact absurd h (by decide)
 split at h
 ·assumption
 exact absurd h (by decide)
theorem mark_eq {l:List UInt8} (h:aC l=0):gj l=(decide (l=[]) || (decide (l.head?=some 61) || !decide (be l=(3,0,l)))):=by
 have h256:=lg h
 have hp:=pQ h
 by_cases h2:l.head?=some 61
 ·rw [decide_eq_true h2]
  simp only [Bool.true_or,Bool.or_true]
  by_cases h3:(bo l.tail).2.2=0
  ·rw [i8 (fT (by omega) hp h2 h3)]; rfl
  rw [i8 (gy (by omega) hp h2 h3),decide_eq_true h3]; rfl
 rw [i8 (eN (by omega) hp h2),decide_eq_false h2]
 by_cases h0:l=[]
 ·subst h0; decide
 rw [decide_eq_false h0]; simp
theorem om {k:Nat} {n:Int} {t:List UInt8} (hk:k≠3) (h1 : -9223372036854775808≤n) (h2:n≤9223372036854775807) (hc:cellV k n t):(cu k n t).length≤256:=by
 rcases hc with ⟨rfl,-⟩ | ⟨rfl,-⟩ | ⟨rfl,-,h⟩ | ⟨rfl,-⟩ | ⟨rfl,-,h3,h4⟩
 ·exact Nat.zero_le _
 ·exact Nat.le_trans (l6 n h1 h2) (by decide)
 ·rcases h with rfl | rfl
  ·exact (by decide:cf.length≤256)
  exact (by decide:c6.length≤256)
 ·exact absurd rfl hk
 have key:∀ j:Fin 7,(aB[j.1]?.getD []).length≤256:=by decide
 have:=key ⟨n.toNat,by omega⟩
 exact this
theorem q7 {k:Nat} {n:Int} {t:List UInt8} (hk:k≠3) (h1 : -9223372036854775808≤n) (h2:n≤9223372036854775807) (hc:cellV k n t) (h6:¬ (k=4∧n=6)):cp k n t=(cu k n t,0):=by
 have hm:eX k (cu k n t)=cu k n t:=if_neg fun h=>hk h.1
 rw [jp (by rintro (h | h); exact h (aF hc); exact h6 h) (by rw [hm]; have:=om hk h1 h2 hc; omega),hm]
theorem q8 {l:List UInt8} (h:aC l=0) {b:Bool} (hb:(decide (l=[]) || (decide (l.head?=some 61) || !decide (be l=(3,0,l))))=b) :
  cp 3 0 l=if 256<(if b=true then 39::l else l).length then ([],5) else (if b=true then 39::l else l,0):=by
 have hv:bm 3 0 l=0:=aF (.inr (.inr (.inr (.inl ⟨rfl,rfl,h⟩))))
 have hm:eX 3 (cu 3 0 l)=if b=true then 39::l else l:=by
  have e:cu 3 0 l=l:=rfl
  have e2:=mark_eq h
  rw [hb] at e2
  unfold eX
  rw [e]
  simp only [e2,true_and]
 have hn:¬ (bm 3 0 l≠0∨(3=4∧(0:Int)=6)):=by rw [hv]; simp
 by_cases h2:256<(if b=true then 39::l else l).length
 ·rw [if_pos h2,jo hn (by rw [hm]; exact h2)]
 rw [if_neg h2,jp hn (by rw [hm]; exact h2),hm]
set_option maxRecDepth 100000
set_option maxHeartbeats 8000000
noncomputable def jh (l:List UInt8):List UInt8×Int :=
 if (aV l).2.2≠0 then ([],(aV l).2.2)
 else if (aV l).1.f=true then (if (cQ ((aV l).1.t.map Nd.any)).2≠0 then ([],(cQ ((aV l).1.t.map Nd.any)).2) else (61::(cQ ((aV l).1.t.map Nd.any)).1,0))
 else cp (aV l).1.v.1 (aV l).1.v.2.1 (aV l).1.v.2.2
theorem sM {l:List UInt8} {m:Mn} {a e:Int} (h:aV l=(m,a,e)) (he:e≠0):jh l=([],e):=by unfold jh; rw [h,if_pos he]
theorem pL {l:List UInt8} {m:Mn} {a:Int} (h:aV l=(m,a,0)) (hf:m.f=false):jh l=cp m.v.1 m.v.2.1 m.v.2.2:=by unfold jh; rw [h,if_neg (by simp),if_neg (by show ¬ m.f=true; rw [hf]; decide)]
theorem sL {l:List UInt8} {m:Mn} {a:Int} (h:aV l=(m,a,0)) (hf:m.f=true) (h2:(cQ (m.t.map Nd.any)).2≠0):jh l=([],(cQ (m.t.map Nd.any)).2):=by unfold jh; rw [h,if_neg (by simp)]; show (if m.f=true then _ else _)=_; rw [if_pos hf,if_pos h2]
theorem lZ {l:List UInt8} {m:Mn} {a:Int} (h:aV l=(m,a,0)) (hf:m.f=true) (h2:(cQ (m.t.map Nd.any)).2=0):jh l=(61::(cQ (m.t.map Nd.any)).1,0):=by unfold jh; rw [h,if_neg (by simp)]; show (if m.f=true then _ else _)=_; rw [if_pos hf,if_neg (by rw [h2]; decide)]
theorem uX {w:World} {base:Nat} {v:Value} {t:List Nd} (h:w.ownsRow base 39 11 v t.length (de t)):∃ a c,v=.slice a t.length c∧bi w a 11 ((t.map Nd.any).map dv):=by
 obtain ⟨a,c,h1,-,-,h4⟩:=jV du (fun _=>rfl) h rfl
 exact ⟨a,c,h1,by rw [gJ]; exact h4⟩
theorem xG (PT:Option Addr→World→Prop) (s R:ByteArray) (V:Int) (w:World) (f:Bool) (a:Nat) (n1:Int) (t1:List UInt8) (tl:Nat) (at_ er:Int) (HOF:ao (Calls prog 35 #[.string s] w fun e w'=>∃ ta tc,e=.returned (.tuple #[.agg #[.bool f,.int .u8 (a:Nat),.int .i64 n1,.string ⟨t1.toArray⟩,.slice ta tl tc],.int .i64 at_,.int .i64 er])∧PT ta w'∧Below w.heap.size w w')) (he:(er != 0)=true) (HV:ao (R=⟨#[]⟩∧V=er)) :
  Calls prog 36 #[.string s] w fun e w'=>e=.returned (.tuple #[.string R,.int .i64 V])∧Below w.heap.size w w':=by
 go_enter func36,ntmps36
 go_wp2_with fail
 refine HOF.out.mono ?_
 rintro e w1 ⟨ta,tc,rfl,hpt,hb2⟩
 have HPT:=keep hpt
 have H3:=Lib.hid ((Ok.start w).below hb2)
 have HB0:=Lib.hid hb2
 clear hb2 hpt
 go_upto_region 2 with fail
 have H4:=Lib.hid (H3.out.var w1.heap.size 65 [.bool f,.int .u8 (a:Nat),.int .i64 n1,.string ⟨t1.toArray⟩,.slice ta tl tc] rfl)
 clear H3
 generalize (w1.alloc (.cells #[.bool f,.int .u8 (a:Nat),.int .i64 n1,.string ⟨t1.toArray⟩,.slice ta tl tc] 65))=W5 at H4 ⊢
 have F6:=sE H4
 go_wp2_with fail
 exact bodyPost_ret (v:=.tuple #[.string ⟨#[]⟩,.int .i64 er]) (by simp [results,results36,go_sem]) rfl ⟨by rw [HV.out.1,HV.out.2],H4.out.bel⟩
theorem xH (PT:Option Addr→World→Prop) (s R:ByteArray) (V:Int) (w:World) (f:Bool) (a:Nat) (n1:Int) (t1:List UInt8) (tl:Nat) (at_ er:Int) (HOF:ao (Calls prog 35 #[.string s] w fun e w'=>∃ ta tc,e=.returned (.tuple #[.agg #[.bool f,.int .u8 (a:Nat),.int .i64 n1,.string ⟨t1.toArray⟩,.slice ta tl tc],.int .i64 at_,.int .i64 er])∧PT ta w'∧Below w.heap.size w w')) (he:er=0) (hf:f=false) (HC:ao (∀ W,Below w.heap.size w W→Calls prog 18 #[.agg #[.int .u8 (a:Nat),.int .i64 n1,.string ⟨t1.toArray⟩]] W fun e w'=>e=.returned (.tuple #[.string R,.int .i64 V])∧Below W.heap.size W w')) :
  Calls prog 36 #[.string s] w fun e w'=>e=.returned (.tuple #[.string R,.int .i64 V])∧Below w.heap.size w w':=by
 subst he hf
 go_enter func36,ntmps36
 go_wp2_with fail
 refine HOF.out.mono ?_
 rintro e w1 ⟨ta,tc,rfl,hpt,hb2⟩
 have HPT:=keep hpt
 have H3:=Lib.hid ((Ok.start w).below hb2)
 have HB0:=Lib.hid hb2
 clear hb2 hpt
 go_upto_region 2 with fail
 have H4:=Lib.hid (H3.out.var w1.heap.size 65 [.bool false,.int .u8 (a:Nat),.int .i64 n1,.string ⟨t1.toArray⟩,.slice ta tl tc] rfl)
 clear H3
 generalize (w1.alloc (.cells #[.bool false,.int .u8 (a:Nat),.int .i64 n1,.string ⟨t1.toArray⟩,.slice ta tl tc] 65))=W5 at H4 ⊢
 have F6:=sE H4
 go_wp2_with fail
 refine cM (HC.out _ H4.out.bel) H4 fun w7 H9=>?_
 clear F6 H4
 have F10:=sE H9
 go_wp2_with fail
 exact bodyPost_ret (v:=.tuple #[.string R,.int .i64 V]) (by simp [results,results36,go_sem]) rfl ⟨rfl,H9.out.bel⟩
theorem xI (PT:Option Addr→World→Prop) (s R:ByteArray) (V:Int) (w:World) (f:Bool) (a:Nat) (n1:Int) (t1:List UInt8) (tl:Nat) (at_ er:Int) (HOF:ao (Calls prog 35 #[.string s] w fun e w'=>∃ ta tc,e=.returned (.tuple #[.agg #[.bool f,.int .u8 (a:Nat),.int .i64 n1,.string ⟨t1.toArray⟩,.slice ta tl tc],.int .i64 at_,.int .i64 er])∧PT ta w'∧Below w.heap.size w w')) (he:er=0) (hf:f=true) (X:ByteArray) (g:Int) (HC:ao (∀ ta tc W1 W,PT ta W1→Below w.heap.size w W1→Below W1.heap.size W1 W→Calls prog 8 #[.slice ta tl tc] W fun e w'=>e=.returned (.tuple #[.string X,.int .i64 g])∧Below W.heap.size W w')) (hg:(g != 0)=true) (HV:ao (R=⟨#[]⟩∧V=g)) :
  Calls prog 36 #[.string s] w fun e w'=>e=.returned (.tuple #[.string R,.int .i64 V])∧Below w.heap.size w w':=by
 subst he hf
 go_enter func36,ntmps36
 go_wp2_with fail
 refine HOF.out.mono ?_
 rintro e w1 ⟨ta,tc,rfl,hpt,hb2⟩
 have HPT:=keep hpt
 have H3:=Lib.hid ((Ok.start w).below hb2)
 have HB0:=Lib.hid hb2
 clear hb2 hpt
 go_upto_region 2 with fail
 have HBW:=Lib.hid ((Below.refl w1.heap.size w1).alloc (Nat.le_refl _) (.cells #[.bool true,.int .u8 (a:Nat),.int .i64 n1,.string ⟨t1.toArray⟩,.slice ta tl tc] 65))
 have H4:=Lib.hid (H3.out.var w1.heap.size 65 [.bool true,.int .u8 (a:Nat),.int .i64 n1,.string ⟨t1.toArray⟩,.slice ta tl tc] rfl)
 clear H3
 generalize (w1.alloc (.cells #[.bool true,.int .u8 (a:Nat),.int .i64 n1,.string ⟨t1.toArray⟩,.slice ta tl tc] 65))=W5 at H4 HBW ⊢
 have F6:=sE H4
 go_wp2_with fail
 refine cM (HC.out ta tc _ _ HPT.out HB0.out HBW.out) H4 fun w7 H9=>?_
 clear F6 H4
 have F10:=sE H9
 go_wp2_with fail
 exact bodyPost_ret (v:=.tuple #[.string ⟨#[]⟩,.int .i64 g]) (by simp [results,results36,go_sem]) rfl ⟨by rw [HV.out.1,HV.out.2],H9.out.bel⟩
theorem xJ (PT:Option Addr→World→Prop) (s R:ByteArray) (V:Int) (w:World) (f:Bool) (a:Nat) (n1:Int) (t1:List UInt8) (tl:Nat) (at_ er:Int) (HOF:ao (Calls prog 35 #[.string s] w fun e w'=>∃ ta tc,e=.returned (.tuple #[.agg #[.bool f,.int .u8 (a:Nat),.int .i64 n1,.string ⟨t1.toArray⟩,.slice ta tl tc],.int .i64 at_,.int .i64 er])∧PT ta w'∧Below w.heap.size w w')) (he:er=0) (hf:f=true) (X:ByteArray) (g:Int) (HC:ao (∀ ta tc W1 W,PT ta W1→Below w.heap.size w W1→Below W1.heap.size W1 W→Calls prog 8 #[.slice ta tl tc] W fun e w'=>e=.returned (.tuple #[.string X,.int .i64 g])∧Below W.heap.size W w')) (hg:g=0) (hz:X.size≤1000) (HV:ao (R=⟨#[61]⟩++X∧V=0)) :
  Calls prog 36 #[.string s] w fun e w'=>e=.returned (.tuple #[.string R,.int .i64 V])∧Below w.heap.size w w':=by
 subst he hf hg
 have z61:(⟨#[61]⟩:ByteArray).size=1:=rfl
 go_enter func36,ntmps36
 go_wp2_with fail
 refine HOF.out.mono ?_
 rintro e w1 ⟨ta,tc,rfl,hpt,hb2⟩
 have HPT:=keep hpt
 have H3:=Lib.hid ((Ok.start w).below hb2)
 have HB0:=Lib.hid hb2
 clear hb2 hpt
 go_upto_region 2 with fail
 have HBW:=Lib.hid ((Below.refl w1.heap.size w1).alloc (Nat.le_refl _) (.cells #[.bool true,.int .u8 (a:Nat),.int .i64 n1,.string ⟨t1.toArray⟩,.slice ta tl tc] 65))
 have H4:=Lib.hid (H3.out.var w1.heap.size 65 [.bool true,.int .u8 (a:Nat),.int .i64 n1,.string ⟨t1.toArray⟩,.slice ta tl tc] rfl)
 clear H3
 generalize (w1.alloc (.cells #[.bool true,.int .u8 (a:Nat),.int .i64 n1,.string ⟨t1.toArray⟩,.slice ta tl tc] 65))=W5 at H4 HBW ⊢
 have F6:=sE H4
 go_wp2_with fail
 refine cM (HC.out ta tc _ _ HPT.out HB0.out HBW.out) H4 fun w7 H9=>?_
 clear F6 H4
 have F10:=sE H9
 go_wp2_with fail
 exact bodyPost_ret (v:=.tuple #[.string (⟨#[61]⟩++X),.int .i64 0]) (by simp [results,results36,go_sem]) rfl ⟨by rw [HV.out.1,HV.out.2],H9.out.bel⟩
theorem iZ (s:ByteArray) (w:World) (he:dm w) :
  Calls prog 36 #[.string s] w fun e w'=>e=.returned (.tuple #[.string ⟨(jh s.data.toList).1.toArray⟩,.int .i64 (jh s.data.toList).2])∧Below w.heap.size w w':=by
 have hof:=js s w he.1
 unfold ku at hof
 obtain ⟨R,hR⟩:=ex (aV s.data.toList)
 rw [hR] at hof
 obtain ⟨m,at_,er⟩:=R
 dsimp only at hof
 have hrg:=nS hR
 obtain ⟨f,⟨a,n1,t1⟩,t⟩:=m
 have HOF:ao (Calls prog 35 #[.string s] w fun e w'=>∃ ta tc,e=.returned (.tuple #[.agg #[.bool f,.int .u8 (a:Nat),.int .i64 n1,.string ⟨t1.toArray⟩,.slice ta t.length tc],.int .i64 at_,.int .i64 er])∧bi w' ta 11 ((t.map Nd.any).map dv)∧Below w.heap.size w w'):=keep (hof.mono (by
  rintro e w' ⟨tv,rfl,h1,h2⟩
  obtain ⟨ta,tc,rfl,h3⟩:=uX h1
  exact ⟨ta,tc,rfl,h3,h2⟩))
 by_cases h0:er=0
 rotate_left
 ·rw [sM hR h0]
  exact xG (fun ta w'=>bi w' ta 11 ((t.map Nd.any).map dv)) s _ _ w f a n1 t1 t.length at_ er HOF (by simpa using h0) (keep ⟨rfl,rfl⟩)
 subst h0
 cases f with
 | false =>
  have hc:=pL hR rfl
  rw [hc]
  refine xH (fun ta w'=>bi w' ta 11 ((t.map Nd.any).map dv)) s _ _ w false a n1 t1 t.length at_ 0 HOF rfl rfl (keep fun W hb => ?_)
  exact fm a n1 ⟨t1.toArray⟩ (by show t1.toArray.size≤_; rw [List.size_toArray]; have h9:t1.length≤256:=hrg.2.2; omega) hrg.1 hrg.2.1 W (he.below hb).1
 | true =>
  obtain ⟨hsz,hft⟩:=qe hR rfl
  have HSF:=keep fun (ta:Option Addr) (tc:Nat) (W1 W:World) (h1:bi W1 ta 11 ((t.map Nd.any).map dv)) (h2:Below w.heap.size w W1) (h3:Below W1.heap.size W1 W)=>by
   have h9:=lJ (t.map Nd.any) ta tc W hsz ⟨h1.below h3,(he.below h2).below h3⟩
   rw [List.length_map] at h9
   exact h9
  by_cases hg:(cQ (t.map Nd.any)).2=0
  ·rw [lZ hR rfl hg]
   rw [hg] at HSF
   refine xJ (fun ta w'=>bi w' ta 11 ((t.map Nd.any).map dv)) s _ _ w true a n1 t1 t.length at_ 0 HOF rfl rfl _ _ HSF rfl ?_ (keep ⟨?_,rfl⟩)
   ·show (cQ (t.map Nd.any)).1.toArray.size≤_
    rw [List.size_toArray]
    have:=qA (t.map Nd.any)
    omega
   show (⟨_⟩:ByteArray)=(⟨[61].toArray⟩:ByteArray)++⟨_⟩
   rw [bytes_append]
   rfl
  rw [sL hR rfl hg]
  exact xI (fun ta w'=>bi w' ta 11 ((t.map Nd.any).map dv)) s _ _ w true a n1 t1 t.length at_ 0 HOF rfl rfl _ _ HSF (by simpa using hg) (keep ⟨rfl,rfl⟩)
set_option maxRecDepth 100000
set_option maxHeartbeats 8000000
attribute [local go_sem high] ju
theorem uc:aV [50,46,53]=(⟨false,(1,25000,[]),[]⟩,0,0):=by
 rw [eN (by decide) (by decide) (by decide)]
 rfl
def kwT:List Nd:=[⟨2,0,0,[],⟨1,1,1,1⟩,0,0,0⟩,⟨1,1,10000,[],R4.zero,0,0,0⟩,cN 1]
theorem lA:bo [97,49,32,43,32,49]=(kwT,0,0):=by kernel_rfl
theorem vM:jh [61,97,49,32,43,32,49]=([61,65,49,43,49],0):=by
 have hm:aV [61,97,49,32,43,32,49]=(⟨true,(0,0,[]),kwT⟩,0,0):=by
  rw [fT (by decide) (by decide) rfl (by show (bo [97,49,32,43,32,49]).2.2=0; rw [lA])]
  show (_,_,_)=_
  rw [show [61,97,49,32,43,32,49].tail=([97,49,32,43,32,49]:List UInt8) from rfl,lA]
 obtain ⟨-,hck,-,-,-,-⟩:=kC lA
 have hs:eZ ((kwT.map Nd.any).map NdA.nd)=[65,49,43,49]:=by rw [lB]; kernel_rfl
 have hf:cQ (kwT.map Nd.any)=([65,49,43,49],0):=by rw [jX hck (by rw [hs]; decide),hs]
 rw [lZ hm rfl (by show (cQ (kwT.map Nd.any)).2=0; rw [hf])]
 show (61::(cQ (kwT.map Nd.any)).1,_)=_
 rw [hf]
theorem mm (w:World) (he:dm w) :
  Calls prog 17 #[] w fun e w'=>e=.returned (.bool true)∧Below w.heap.size w w':=by
 have HE:=keep he
 have hof:=js ⟨#[50,46,53]⟩ w he.1
 unfold ku at hof
 rw [show (⟨#[50,46,53]⟩:ByteArray).data.toList=[50,46,53] from rfl,uc] at hof
 have HOF:=keep (hof.mono (R':=fun e w'=>∃ ta tn tc,e=.returned (.tuple #[.agg #[.bool false,.int .u8 1,.int .i64 25000,.string ⟨#[]⟩,.slice ta tn tc],.int .i64 0,.int .i64 0])∧Below w.heap.size w w') (by
  rintro e w' ⟨tv,rfl,g1,g2⟩
  obtain ⟨ta,tc,rfl⟩:=bp g1
  exact ⟨ta,_,tc,rfl,g2⟩))
 have HCA:=keep (fun W (h:dm W)=>by
  have h9:=iZ ⟨#[61,97,49,32,43,32,49]⟩ W h
  rw [show (⟨#[61,97,49,32,43,32,49]⟩:ByteArray).data.toList=[61,97,49,32,43,32,49] from rfl,vM] at h9
  exact h9)
 clear he hof
 go_enter func17,ntmps17
 go_wp2_with fail
 refine HOF.out.mono ?_
 rintro e w1 ⟨ta,tn,tc,rfl,hb2⟩
 have H3:=Lib.hid ((Ok.start w).below hb2)
 clear hb2
 go_upto_region 2 with fail
 have H4:=Lib.hid (H3.out.var w1.heap.size 65 [.bool false,.int .u8 1,.int .i64 25000,.string ⟨#[]⟩,.slice ta tn tc] rfl)
 clear H3
 generalize (w1.alloc (.cells #[.bool false,.int .u8 1,.int .i64 25000,.string ⟨#[]⟩,.slice ta tn tc] 65))=W5 at H4 ⊢
 have F6:=sE H4
 go_wp2_with fail
 refine cM (HCA.out _ (HE.out.below H4.out.bel)) H4 fun w7 H9=>?_
 clear F6 H4
 have F10:=sE H9
 go_wp2_with fail
 go_ret
 exact ⟨rfl,H9.out.bel⟩
