/- show.text at calls, and at every node. show.Formula, of any nodes. show.outline and show.Outline. show.Outline, of any nodes. Plain: what the parser hands back is a tree that is shown. The kit's EqualTree in general, EqualStrings and CopyTree; the statements' Few. entry.Constant at any value; bounds of what an input means. The kit's CopyTree; the statements' Few. The reference: what an input means that is no formula (louvreref11.constant). entry.Check. -/
import Derived.Test.YtdplcdhpnmcdjaaGreatDoorKTxu
import Derived.Test.YtdplcdhpnmcdjaaGreatDoorKParK
import Derived.Test.YtdplcdhpnmcdjaaGreatDoorKTxt
import Derived.Lib.Repeat
import Derived.Test.YtdplcdhpnmcdjaaGreatDoorKParP
import Derived.Test.YtdplcdhpnmcdjaaGreatDoorKGiv
import Derived.Test.YtdplcdhpnmcdjaaGreatDoorKLexJ
import Derived.Test.YtdplcdhpnmcdjaaGreatDoorKForB
import Derived.Test.YtdplcdhpnmcdjaaGreatDoorKTg
import Derived.Test.YtdplcdhpnmcdjaaGreatDoorKCrC
import Derived.Deep.DeepCutAuto
import Derived.Test.YtdplcdhpnmcdjaaGreatDoorKAddP6
namespace Go.Proofs.YtdplcdhpnmcdjaaGreatDoor
open Go.RowKit
structure AIn (t:List NdA) (ta:Option Addr) (w:World):Prop where
 rows:bi w ta 11 (t.map dv)
 env:dm w
theorem AIn.below {t:List NdA} {ta:Option Addr} {w w':World} (h:AIn t ta w) (hb:Below w.heap.size w w'):AIn t ta w':=⟨h.rows.below hb,h.env.below hb⟩
structure ASz (t:List NdA):Prop where
 len:t.length≤1000
 txt:∀ a∈t,a.vt.length≤4611686018427387904
 num:∀ a∈t,a.vn≤9223372036854775807
attribute [local go_sem high] tC
theorem z7 {w:World} {a:Option Addr} {s:Nat} {l:List (List Value)} (h:bi w a s l) {i:Nat} {r:List Value} (hi:l[i]?=some r):∃ b o,a=some ⟨b,o,none⟩∧b<w.heap.size∧∀ j v,r[j]?=some v→w.cell? ⟨b,o+i * s+j,none⟩=some v:=by
 obtain ⟨b,o,h1,h2,h3⟩:=h (by intro e; rw [e] at hi; cases hi)
 exact ⟨b,o,h1,h2,fun j v hj=>by rw [Nat.add_assoc]; exact h3 i r hi j v hj⟩
theorem nt {s t:ByteArray} (h:s.data.toList=t.data.toList):s=t:=by
 obtain ⟨⟨a⟩⟩:=s
 obtain ⟨⟨b⟩⟩:=t
 have h:a=b:=h
 rw [h]
theorem CI {α:Type} (f:α→List Value) (s:Nat) (hf:∀ x,(f x).length=s):∀ (l:List α) (j:Nat) (v:Value),(l.flatMap f)[j]?=some v→∃ i x k,l[i]?=some x∧j=i * s+k∧(f x)[k]?=some v:=by
 intro l
 induction l with
 | nil=>intro j v h; cases h
 | cons x l ih =>
  intro j v h
  rw [List.flatMap_cons] at h
  by_cases hj:j<(f x).length
  ·rw [List.getElem?_append_left hj] at h
   exact ⟨0,x,j,rfl,by omega,h⟩
  rw [List.getElem?_append_right (by omega)] at h
  obtain ⟨i,y,k,h1,h2,h3⟩:=ih _ _ h
  refine ⟨i+1,y,k,h1,?_,h3⟩
  rw [hf] at h2 hj
  rw [Nat.succ_mul]
  omega
theorem BZ {P:Program} {w w':World} {ops:Array Oper} {rest:List Oper} {o:Oper} {a:Act} {Q:Exit→Act→World→Prop} {v:Value} (hgd:o.guard=none) (s x:Operand) (t:TypeId)
  (ho:o.op=.call { callee:=.builtin .append,args:=#[s,x],argTypes:=#[t,t] }) (V X:Value) (hs:a.eval s=V) (hx:a.eval x=X) (hr:(Builtin.append_ #[t,t] o.type #[V,X]).run P w=.ok v w')
  (h:wpList P ops Q rest (a.put o.dst v) w'):wpList P ops Q (o::rest) a w:=by
 refine wpList_plain hgd fun K hK => ?_
 unfold Oper.wp execOp
 simp only [ho,resolve,invoke,builtin,Sem.run_bind,Sem.run_pure,Result.andThen_ok,List.map_toArray,List.map_cons,List.map_nil,hs,hx,hr]
 exact hK _ _ h
set_option maxRecDepth 100000
set_option maxHeartbeats 8000000
open Go.RowKit Go.Proofs.Tryz
theorem sS:be []=(0,0,[]):=rfl
theorem x9 {l:List UInt8} (h0:l≠[]):∀ j,j<1→(bh j l).2=false:=fun j hj=>by
 obtain rfl:j=0:=by omega
 show l.isEmpty=false
 cases l with
 | nil=>exact absurd rfl h0
 | cons=>rfl
theorem sQ {l:List UInt8} (h0:l≠[]) (h1:l.head?=some 39):be l=(3,0,l.tail):=by
 obtain ⟨e1,e2⟩:=li (l:=l) (c:=39)
 rw [dI (k:=1) (by decide) (x9 h0) (by show Lib.hasPrefix l [39]=true; rw [e1,decide_eq_true h1])]
 show (3,0,Lib.trimPrefix l [39])=_
 rw [e2 h1]
theorem wQ {l:List UInt8} (h0:l≠[]) (h1:l.head?≠some 39):∀ j,j<2→(bh j l).2=false:=fun j hj=>by
 rcases (show j<1∨j=1 by omega) with h | rfl
 ·exact x9 h0 j h
 show Lib.hasPrefix l [39]=false
 rw [(li (l:=l) (c:=39)).1,decide_eq_false h1]
theorem sU {l:List UInt8} (h0:l≠[]) (h1:l.head?≠some 39) (h2:l.map upB=c6):be l=(2,1,[]):=by
 have e:bh 2 l=((2,1,[]),true):=by rw [j7,if_pos h2]
 rw [dI (k:=2) (by decide) (wQ h0 h1) (by rw [e]),e]
theorem q5 {l:List UInt8} (h0:l≠[]) (h1:l.head?≠some 39) (h2:l.map upB=cf):be l=(2,0,[]):=by
 have e:bh 2 l=((2,0,[]),true):=by rw [j7,if_neg (by rw [h2]; decide),if_pos h2]
 rw [dI (k:=2) (by decide) (wQ h0 h1) (by rw [e]),e]
theorem yS {l:List UInt8} (h0:l≠[]) (h1:l.head?≠some 39) (h2:l.map upB≠c6) (h3:l.map upB≠cf):∀ j,j<3→(bh j l).2=false:=fun j hj=>by
 rcases (show j<2∨j=2 by omega) with h | rfl
 ·exact wQ h0 h1 j h
 rw [j7,if_neg h2,if_neg h3]
theorem sP {l:List UInt8} (hn:∀ j,j<3→(bh j l).2=false) (h0:bH l≠0) (h5:bH l≤5):be l=(4,(bH l:Int),[]):=by
 have e:bh 3 l=((4,(bH l:Int),[]),true):=by rw [lR,if_neg h0,decide_eq_true h5]
 rw [dI (k:=3) (by decide) hn (by rw [e]),e]
theorem yT {l:List UInt8} (hn:∀ j,j<3→(bh j l).2=false) (h:bH l=0∨¬ bH l≤5):∀ j,j<4→(bh j l).2=false:=fun j hj=>by
 rcases (show j<3∨j=3 by omega) with g | rfl
 ·exact hn j g
 rw [lR]
 by_cases h0:bH l=0
 ·rw [if_pos h0]
 rw [if_neg h0]
 exact decide_eq_false (h.resolve_left h0)
theorem vP {l:List UInt8} (hn:∀ j,j<4→(bh j l).2=false) (h:(cx l).2=0):be l=(1,(cx l).1,[]):=by
 have e:bh 4 l=((1,(cx l).1,[]),true):=by rw [iF,if_neg (by rw [h]; decide),decide_eq_true h]
 rw [dI (k:=4) (by decide) hn (by rw [e]),e]
theorem q6 {l:List UInt8} (hn:∀ j,j<4→(bh j l).2=false) (h:(cx l).2=3):be l=(4,3,[]):=by
 have e:bh 4 l=((4,3,[]),true):=by rw [iF,if_pos h]
 rw [dI (k:=4) (by decide) hn (by rw [e]),e]
theorem sT {l:List UInt8} (hn:∀ j,j<4→(bh j l).2=false) (h0:(cx l).2≠0) (h3:(cx l).2≠3):be l=(3,0,l):=jn fun j hj=>by
 rcases (show j<4∨j=4 by omega) with g | rfl
 ·exact hn j g
 rw [iF,if_neg h3]
 exact decide_eq_false h0
theorem jO (s:ByteArray) (hs:s.size≤4611686018427387904) (w:World) :
  Calls prog 43 #[.string s] w fun e w'=>e=.returned (.agg #[.int .u8 ((be s.data.toList).1:Nat),.int .i64 (be s.data.toList).2.1,.string ⟨(be s.data.toList).2.2.toArray⟩])∧Below w.heap.size w w':=by
 have HS:=keep hs
 have HUP:=keep (fun W=>jR s W HS.out)
 have HCD:=keep (fun W=>qv s HS.out W)
 have HPA:=keep (fun W=>oc s HS.out W)
 have HPR:=keep (gB s.data.toList)
 obtain ⟨V,hV⟩:=ex (be s.data.toList)
 have HV:=keep hV
 rw [hV]
 clear hV
 have H0:=Lib.hid (Ok.start w)
 go_enter func43,ntmps43
 go_upto_region 1 with fail
 have H1:=Lib.hid (H0.out.var w.heap.size 35 [.int .u8 0,.int .i64 0,.string ⟨#[]⟩] rfl)
 clear H0
 generalize (w.alloc (.cells #[.int .u8 0,.int .i64 0,.string ⟨#[]⟩] 35))=W2 at H1 ⊢
 have F3:=sE H1
 by_cases he:s.data.toList=[]
 ·have hte:s.toList.isEmpty=true:=by rw [toL,he]; rfl
  have HR:=keep (HV.out.symm.trans ((congrArg be he).trans sS))
  clear he
  go_wp2_with fail
  have hK:=H1.out.get (af (w.heap.size) 35 [.int .u8 0,.int .i64 0,.string ⟨#[]⟩]) (by simp)
  have hB:=H1.out.bel
  have hE:=((((show Blk W2 (w.heap.size) 35 _ from hK).set_ 0 (.int .u8 0)).set_ 1 (.int .i64 0)).set_ 2 (.string ⟨#[]⟩))
  exact bodyPost_ret (v:=.agg #[.int .u8 0,.int .i64 0,.string ⟨#[]⟩]) (by simp [results,results43,go_sem,hE.cell]) rfl ⟨(by rw [HR.out]; try rfl),(sC (sC (sC hB _) _) _)⟩
 have hte:s.toList.isEmpty=false:=by
  rw [toL]
  cases h9:s.data.toList with
  | nil=>exact absurd h9 he
  | cons=>rfl
 have h0:0<s.size:=by
  have h9:=List.length_pos_iff.2 he
  rw [Array.length_toList] at h9
  exact h9
 have hh : s.data.toList.head? = some (s[0]'h0):=by
  rw [List.head?_eq_getElem?,List.getElem?_eq_getElem (by rw [Array.length_toList]; exact h0)]; rfl
 have HNE:=keep he
 clear he
 by_cases h39 : ((s[0]'h0).toNat : Int) = 39
 ·have ht : (((s[0]'h0).toNat : Int) == 39) = true:=by rw [h39]; rfl
  have hb : s[0]'h0 = 39:=UInt8.toNat_inj.1 (by show _ = 39; omega)
  obtain ⟨X,hX⟩:∃ X:ByteArray,s.extract 1 s.size=X:=⟨_,rfl⟩
  have HXD:=keep (show X=⟨s.data.toList.tail.toArray⟩ by
   rw [← hX]
   apply nt
   rw [Lib.extract_data,← List.drop_one]
   show (s.data.toList.drop 1).take (s.size - 1)=s.data.toList.drop 1
   rw [List.take_of_length_le (by rw [List.length_drop,Array.length_toList]; exact Nat.le_refl _)])
  have HR:=keep (HV.out.symm.trans (sQ HNE.out (by rw [hh,hb])))
  have hsz:(1:Int)≤(s.size:Int):=by omega
  clear h39 hb hh
  go_wp2_with fail
  try rw [hX]
  clear hX
  have hK:=H1.out.get (af (w.heap.size) 35 [.int .u8 0,.int .i64 0,.string ⟨#[]⟩]) (by simp)
  have hB:=H1.out.bel
  have hE:=((((show Blk W2 (w.heap.size) 35 _ from hK).set_ 0 (.int .u8 3)).set_ 1 (.int .i64 0)).set_ 2 (.string X))
  exact bodyPost_ret (v:=.agg #[.int .u8 3,.int .i64 0,.string X]) (by simp [results,results43,go_sem,hE.cell]) rfl ⟨(by rw [HR.out,HXD.out]; try rfl),(sC (sC (sC hB _) _) _)⟩
 have ht39 : (((s[0]'h0).toNat : Int) == 39) = false:=beq_eq_false_iff_ne.2 h39
 have HN1:=keep (show s.data.toList.head?≠some 39 from by
  rw [hh]
  intro e
  rw [Option.some.inj e] at h39
  exact h39 rfl)
 clear h39 hh
 obtain ⟨u,hu⟩:=ex (s.data.toList.map upB)
 rw [hu] at HUP
 have HU:=keep hu
 clear hu
 obtain ⟨U,hU⟩:∃ U:ByteArray,⟨u.toArray⟩=U:=⟨_,rfl⟩
 rw [hU] at HUP
 have HUL:=keep (show U.toList=u by rw [← hU,toL])
 clear hU
 go_wp2_with fail
 refine cM (HUP.out _) H1 fun w4 H6=>?_
 clear F3 H1
 have F7:=sE H6
 by_cases hT:u=c6
 ·have htT:(U.toList == [84,82,85,69])=true:=by rw [HUL.out,hT]; rfl
  have HR:=keep (HV.out.symm.trans (sU HNE.out HN1.out (HU.out.trans hT)))
  clear hT
  go_wp2_with fail
  refine cM (HUP.out _) H6 fun w8 H10=>?_
  clear F7 H6
  have F11:=sE H10
  go_wp2_with fail
  refine cM (mP _) H10 fun w12 H14=>?_
  clear F11 H10
  have F15:=sE H14
  go_wp2_with fail
  have hK:=H14.out.get (af (w.heap.size) 35 [.int .u8 0,.int .i64 0,.string ⟨#[]⟩]) (by simp)
  have hB:=H14.out.bel
  have hE:=((((show Blk w12 (w.heap.size) 35 _ from hK).set_ 0 (.int .u8 2)).set_ 1 (.int .i64 1)).set_ 2 (.string ⟨#[]⟩))
  exact bodyPost_ret (v:=.agg #[.int .u8 2,.int .i64 1,.string ⟨#[]⟩]) (by simp [results,results43,go_sem,hE.cell]) rfl ⟨(by rw [HR.out]; try rfl),(sC (sC (sC hB _) _) _)⟩
 have htT:(U.toList == [84,82,85,69])=false:=by rw [HUL.out]; exact beq_eq_false_iff_ne.2 hT
 have HNT:=keep hT
 clear hT
 go_wp2_with fail
 refine cM (HUP.out _) H6 fun w8 H10=>?_
 clear F7 H6
 have F11:=sE H10
 by_cases hF:u=cf
 ·have htF:(U.toList == [70,65,76,83,69])=true:=by rw [HUL.out,hF]; rfl
  have HR:=keep (HV.out.symm.trans (q5 HNE.out HN1.out (HU.out.trans hF)))
  clear hF
  go_wp2_with fail
  refine cM (HUP.out _) H10 fun w12 H14=>?_
  clear F11 H10
  have F15:=sE H14
  go_wp2_with fail
  refine cM (mO _) H14 fun w16 H18=>?_
  clear F15 H14
  have F19:=sE H18
  go_wp2_with fail
  have hK:=H18.out.get (af (w.heap.size) 35 [.int .u8 0,.int .i64 0,.string ⟨#[]⟩]) (by simp)
  have hB:=H18.out.bel
  have hE:=((((show Blk w16 (w.heap.size) 35 _ from hK).set_ 0 (.int .u8 2)).set_ 1 (.int .i64 0)).set_ 2 (.string ⟨#[]⟩))
  exact bodyPost_ret (v:=.agg #[.int .u8 2,.int .i64 0,.string ⟨#[]⟩]) (by simp [results,results43,go_sem,hE.cell]) rfl ⟨(by rw [HR.out]; try rfl),(sC (sC (sC hB _) _) _)⟩
 have htF:(U.toList == [70,65,76,83,69])=false:=by rw [HUL.out]; exact beq_eq_false_iff_ne.2 hF
 have HN2:=keep (yS HNE.out HN1.out (fun e=>HNT.out (HU.out.symm.trans e)) (fun e=>hF (HU.out.symm.trans e)))
 clear hF
 go_wp2_with fail
 obtain ⟨c,hc⟩:=ex (bH s.data.toList)
 have HCE:=keep (show iL s.data.toList=if c=0 then 4 else 0 by unfold iL; rw [hc])
 rw [hc,HCE.out] at HCD
 have HC:=keep hc
 clear hc
 obtain ⟨E,hE⟩:∃ E:Int,(if c=0 then 4 else 0)=E:=⟨_,rfl⟩
 rw [hE] at HCD
 refine cM (HCD.out _) H10 fun w12 H14=>?_
 clear F11 H10
 have F15:=sE H14
 by_cases hc5:c≠0∧c≤5
 ·have hE0:E=0:=by rw [← hE,if_neg hc5.1]
  subst hE0
  have hc6:(c:Int)<6:=by omega
  have HR:=keep (HV.out.symm.trans (sP HN2.out (by rw [HC.out]; exact hc5.1) (by rw [HC.out]; exact hc5.2)))
  have HFC:=keep (fun W=>gC (c:Int) (by omega) (by omega) W)
  clear hc5 hE
  go_wp2_with fail
  refine cM (HFC.out _) H14 fun w16 H18=>?_
  clear F15 H14
  have F19:=sE H18
  go_wp2_with fail
  have hK:=H18.out.get (af (w.heap.size) 35 [.int .u8 0,.int .i64 0,.string ⟨#[]⟩]) (by simp)
  have hB:=H18.out.bel
  have hE:=((((show Blk w16 (w.heap.size) 35 _ from hK).set_ 0 (.int .u8 4)).set_ 1 (.int .i64 (c:Nat))).set_ 2 (.string ⟨#[]⟩))
  exact bodyPost_ret (v:=.agg #[.int .u8 4,.int .i64 (c:Nat),.string ⟨#[]⟩]) (by simp [results,results43,go_sem,hE.cell]) rfl ⟨(by rw [HR.out,HC.out]; try rfl),(sC (sC (sC hB _) _) _)⟩
 have HN3:=keep (yT HN2.out (by rw [HC.out]; omega))
 go_upto_region 8 with fail
 go_cut [37] (fun v wx=>v=.bool false∧wx=w12)
 case first =>
  by_cases hz:c=0
  ·have hE4:E=4:=by rw [← hE,if_pos hz]
   subst hE4
   clear hE hc5 hz
   go_wp2_with fail
   go_meet
   exact ⟨rfl,rfl⟩
  have hE0:E=0:=by rw [← hE,if_neg hz]
  subst hE0
  have hc6:¬ ((c:Int)<6):=by omega
  clear hE hc5 hz
  go_wp2_with fail
  go_meet
  exact ⟨rfl,rfl⟩
 obtain ⟨rfl,hwc⟩:=hcut
 obtain rfl:w12=wc:=hwc.symm
 obtain ⟨n,e0,hp⟩:∃ n e0,cx s.data.toList=(n,e0):=⟨_,_,rfl⟩
 rw [hp] at HPA HPR
 have HP:=keep hp
 clear hp
 dsimp only at HPA HPR
 go_wp2_with fail
 refine cM (HPA.out _) H14 fun w16 H18=>?_
 clear F15 H14
 have F19:=sE H18
 by_cases h0:e0=0
 ·subst h0
  have HR:=keep (HV.out.symm.trans (vP HN3.out (by rw [HP.out])))
  have HMK:=keep (fun W=>qw n HPR.out.1 W)
  go_wp2_with fail
  refine cM (HMK.out _) H18 fun w20 H22=>?_
  clear F19 H18
  have F23:=sE H22
  go_wp2_with fail
  have hK:=H22.out.get (af (w.heap.size) 35 [.int .u8 0,.int .i64 0,.string ⟨#[]⟩]) (by simp)
  have hB:=H22.out.bel
  have hE:=((((show Blk w20 (w.heap.size) 35 _ from hK).set_ 0 (.int .u8 1)).set_ 1 (.int .i64 n)).set_ 2 (.string ⟨#[]⟩))
  exact bodyPost_ret (v:=.agg #[.int .u8 1,.int .i64 n,.string ⟨#[]⟩]) (by simp [results,results43,go_sem,hE.cell]) rfl ⟨(by rw [HR.out,HP.out]; try rfl),(sC (sC (sC hB _) _) _)⟩
 have ht0:(e0 == 0)=false:=beq_eq_false_iff_ne.2 h0
 by_cases h3:e0=3
 ·subst h3
  have HR:=keep (HV.out.symm.trans (q6 HN3.out (by rw [HP.out])))
  have HFC:=keep (fun W=>gC 3 (by decide) (by decide) W)
  clear h0 ht0
  go_wp2_with fail
  refine cM (HFC.out _) H18 fun w20 H22=>?_
  clear F19 H18
  have F23:=sE H22
  go_wp2_with fail
  have hK:=H22.out.get (af (w.heap.size) 35 [.int .u8 0,.int .i64 0,.string ⟨#[]⟩]) (by simp)
  have hB:=H22.out.bel
  have hE:=((((show Blk w20 (w.heap.size) 35 _ from hK).set_ 0 (.int .u8 4)).set_ 1 (.int .i64 3)).set_ 2 (.string ⟨#[]⟩))
  exact bodyPost_ret (v:=.agg #[.int .u8 4,.int .i64 3,.string ⟨#[]⟩]) (by simp [results,results43,go_sem,hE.cell]) rfl ⟨(by rw [HR.out]; try rfl),(sC (sC (sC hB _) _) _)⟩
 have ht3:(e0 == 3)=false:=beq_eq_false_iff_ne.2 h3
 have HR:=keep (HV.out.symm.trans (sT HN3.out (by rw [HP.out]; exact h0) (by rw [HP.out]; exact h3)))
 clear h0 h3
 go_wp2_with fail
 have hK:=H18.out.get (af (w.heap.size) 35 [.int .u8 0,.int .i64 0,.string ⟨#[]⟩]) (by simp)
 have hB:=H18.out.bel
 have hE:=((((show Blk w16 (w.heap.size) 35 _ from hK).set_ 0 (.int .u8 3)).set_ 1 (.int .i64 0)).set_ 2 (.string s))
 exact bodyPost_ret (v:=.agg #[.int .u8 3,.int .i64 0,.string s]) (by simp [results,results43,go_sem,hE.cell]) rfl ⟨(by rw [HR.out]; try rfl),(sC (sC (sC hB _) _) _)⟩
set_option maxRecDepth 100000
set_option maxHeartbeats 8000000
structure En3 where
 c:Int
 r:Int
 inp:List UInt8
def r5 (x:En3):List Value:=[.int .i64 x.c,.int .i64 x.r,.string ⟨x.inp.toArray⟩]
def AK (p:Option En3) (x:En3):Int :=
 if ba x.c x.r=false then 3
 else if (p.map fun y=>zV y.c y.r x.c x.r)=some false then 12
 else if x.inp=[] then 2 else (aV x.inp).2.2
def Aw (l:List En3) (i:Nat):Option En3:=if i=0 then none else l[i - 1]?
def zv (l:List En3) (i:Nat):Int:=match l[i]? with
 | none=>0
 | some x=>AK (Aw l i) x
def Da (l:List En3):Nat→Nat→Int×Int
 | 0,_=>(0,0)
 | n+1,i=>if zv l i≠0 then ((i:Int),zv l i) else Da l n (i+1)
def AS (l:List En3):Int×Int:=Da l l.length 0
theorem AG {l:List En3}:∀ i,i≤l.length→(∀ j,j<i→zv l j=0)→AS l=Da l (l.length - i) i
 | 0,_,_=>rfl
 | i+1,h,hj=>by
  rw [AG i (by omega) fun j hji=>hj j (by omega),show l.length - i=l.length - (i+1)+1 by omega,Da,if_neg (by rw [hj i (Nat.lt_succ_self i)]; decide)]
theorem Db {l:List En3} {i:Nat} (h:i<l.length) (hj:∀ j,j<i→zv l j=0) (hi:zv l i≠0):AS l=((i:Int),zv l i):=by
 rw [AG i (by omega) hj,show l.length - i=l.length - (i+1)+1 by omega,Da,if_pos hi]
theorem Bu {l:List En3} (hj:∀ j,j<l.length→zv l j=0):AS l=(0,0):=by
 rw [AG l.length (Nat.le_refl _) hj,Nat.sub_self]; rfl
theorem By (l:List En3) (a:Option Addr) (c:Nat) (w:World) (hl:l.length≤100000) (hr:bi w a 3 (l.map r5)) (hw:Words w) :
  Calls prog 20 #[.slice a l.length c] w fun e w'=>e=.returned (.tuple #[.int .i64 (AS l).1,.int .i64 (AS l).2])∧Below w.heap.size w w':=by
 have HR:=keep hr
 have HW:=keep hw
 obtain ⟨V,hV⟩:=ex (AS l)
 have HAT:=keep (fun i h1 h2 h3=>(Db (l:=l) (i:=i) h1 h2 h3).symm.trans hV)
 have HNO:=keep (fun h=>(Bu (l:=l) h).symm.trans hV)
 rw [hV]
 obtain ⟨n,hn⟩:=ex (l.length)
 rw [hn] at hl ⊢
 have HN:=keep hn
 clear hr hw hV hn
 have H0:=Lib.hid (Ok.start w)
 go_enter func20,ntmps20
 go_wp2_with fail
 go_loopw [11] (fun iv wr=>∃ i:Nat,i≤n∧iv=.int .i64 (i:Int)∧ao (∀ j,j<i→zv l j=0)∧Hid (Ok w [] wr)) (fun iv _=>n - (intOf iv).toNat)
 case atStart=>exact ⟨0,Nat.zero_le _,rfl,keep (fun j h=>by omega),H0⟩
 case round =>
  clear H0
  obtain ⟨i,hi,rfl,HJ,HQ⟩:=hrel
  obtain ⟨wq,rfl⟩:∃ wq:World,wq=wr:=⟨_,rfl⟩
  by_cases hlt:(i:Int)<(n:Int)
  ·have hil:i<l.length:=by rw [HN.out]; omega
   obtain ⟨x,hx⟩:∃ x,l[i]?=some x:=⟨_,List.getElem?_eq_getElem hil⟩
   obtain ⟨b1,o1,ha,hB,hc⟩:=z7 (HR.out.below HQ.out.bel) (i:=i) (r:=r5 x) (by rw [List.getElem?_map,hx]; rfl)
   subst ha
   have hcl:=qX (w:=wq) (b:=b1) (o:=o1+i * 3) (r5 x) hc
   have HFA:=keep (show zv l i=AK (Aw l i) x by unfold zv; rw [hx])
   have HPV:=keep (fun (h:0<i)=>show ∃ y,l[i - 1]?=some y from ⟨_,List.getElem?_eq_getElem (by omega)⟩)
   have HP0:=keep (show i=0→Aw l i=none from fun h=>by unfold Aw; rw [if_pos h])
   have HP1:=keep (show 0<i→Aw l i=l[i - 1]? from fun h=>by unfold Aw; rw [if_neg (by omega)])
   have HAX:=keep (HAT.out i hil HJ.out)
   have HNX:=keep (fun (h:zv l i=0) j (hj:j<i+1)=>show zv l j=0 from by
    by_cases e:j=i
    ·rw [e]; exact h
    exact HJ.out j (by omega))
   obtain ⟨xc,xr,xi⟩:=x
   obtain ⟨X,hX⟩:∃ X:ByteArray,⟨xi.toArray⟩=X:=⟨_,rfl⟩
   unfold r5 at hcl
   dsimp only at hcl
   rw [hX] at hcl
   have HX:=keep hX
   have H1:=Lib.hid (HQ.out.add (ae b1 (o1+i * 3) [.int .i64 xc,.int .i64 xr,.string X]) ⟨hB,hcl⟩)
   have HB1:=Lib.hid (show b1<wq.heap.size from hB)
   clear hx hcl hc hB hil hX
   have F1:=H1.out.sees
   simp only [sees,ae,ag,Nat.add_zero,Nat.reduceAdd] at F1
   obtain ⟨⟨z0,c00,c01,c02,-⟩,-⟩:=F1
   go_upto_region 4 with fail
   have y2:=z0
   clear z0 c00 c01 c02
   have H3:=Lib.hid (H1.out.var wq.heap.size 48 [.int .i64 xc,.int .i64 xr,.string X] rfl)
   clear H1
   generalize (wq.alloc (.cells #[.int .i64 xc,.int .i64 xr,.string X] 48))=W4 at H3 ⊢
   have F5:=sE H3
   go_wp2_with fail
   refine cM (dG xc xr _) H3 fun w6 H8=>?_
   clear F5 H3
   obtain ⟨vb,hvb⟩:=ex (ba xc xr)
   rw [hvb]
   have HVB:=keep hvb
   clear hvb
   have F9:=sE H8
   cases vb
   ·have HF:=keep (show zv l i=3 by rw [HFA.out]; unfold AK; rw [if_pos HVB.out])
    have hv2:=HAX.out (by rw [HF.out]; decide)
    rw [HF.out] at hv2
    subst hv2
    go_wp2_with fail
    exact bodyPost_ret (v:=.tuple #[.int .i64 (i:Int),.int .i64 3]) (by simp [results,results20,go_sem]) rfl ⟨rfl,H8.out.bel⟩
   by_cases hi0:i=0
   ·have HI0:=keep hi0
    have hi0i:decide ((0:Int)<(i:Int))=false:=decide_eq_false (by omega)
    have hi0n:decide (0<i)=false:=decide_eq_false (by omega)
    clear hi0
    go_upto_region 6 with fail
    refine wp_region_held_drew (S:=fun W=>Ok w [af (wq.heap.size) 48 [.int .i64 xc,.int .i64 xr,.string X],ae b1 (o1+i * 3) [.int .i64 xc,.int .i64 xr,.string X]] W) (by kernel_rfl) H8.out.drew (fun hHeld => ?_)
    refine wt3 0 ?_
    refine wt3 1 ?_
    refine wt3 2 ?_
    refine wsk 3 ?_
    refine wsk 4 ?_
    refine wsk 5 ?_
    refine wsk 6 ?_
    refine wsk 7 ?_
    refine wsk 8 ?_
    refine wsk 9 ?_
    refine wsk 10 ?_
    refine wsk 11 ?_
    refine wsk 12 ?_
    refine wt3 13 ?_
    refine wpAnyH_done (by kernel_rfl) ?_ _
    clear F9
    clear H8
    have H11:=Lib.hid hHeld
    clear hHeld
    have F12:=sE H11
    have HFE:=keep (show zv l i=if xi=[] then 2 else (aV xi).2.2 by rw [HFA.out]; unfold AK; rw [if_neg (by rw [HVB.out]; decide),if_neg (by rw [HP0.out HI0.out]; simp)])
    clear HFA
    have HFA:=HFE
    by_cases hxi:xi=[]
    ·have HXI:=keep hxi
     have hx0:X=⟨#[]⟩:=by rw [← HX.out,hxi]
     subst hx0
     clear hxi
     have HF:=keep (show zv l i=2 by rw [HFA.out]; rw [if_pos HXI.out])
     have hv2:=HAX.out (by rw [HF.out]; decide)
     rw [HF.out] at hv2
     subst hv2
     go_wp2_with fail
     exact bodyPost_ret (v:=.tuple #[.int .i64 (i:Int),.int .i64 2]) (by simp [results,results20,go_sem]) rfl ⟨rfl,H11.out.bel⟩
    have hxe:X.toList.isEmpty=false:=by rw [← HX.out,ByteArray.toList_mk]; cases xi with | nil=>exact absurd rfl hxi | cons _ _=>rfl
    have HXI:=keep hxi
    clear hxi
    have hof:=fun W hW=>js X W hW
    rw [show X.data.toList=xi by rw [← HX.out]] at hof
    unfold ku at hof
    obtain ⟨R,hR⟩:=ex (aV xi)
    have HRE:=keep (show (aV xi).2.2=R.2.2 by rw [hR])
    rw [hR] at hof
    obtain ⟨m,at_,er⟩:=R
    obtain ⟨mf,⟨ma,mn,mt⟩,mtr⟩:=m
    dsimp only at hof HRE
    have HOF:=keep (fun W (hW:Words W)=>(hof W hW).mono (R':=fun e w'=>∃ ta tn tc,e=.returned (.tuple #[.agg #[.bool mf,.int .u8 (ma:Nat),.int .i64 mn,.string ⟨mt.toArray⟩,.slice ta tn tc],.int .i64 at_,.int .i64 er])∧Below W.heap.size W w') (by
     rintro e w' ⟨tv,rfl,g1,g2⟩
     obtain ⟨ta,tc,rfl⟩:=bp g1
     exact ⟨ta,_,tc,rfl,g2⟩))
    clear hof hR
    go_wp2_with fail
    refine (HOF.out _ (HW.out.below H11.out.bel)).mono ?_
    rintro e w13 ⟨ta,tn,tc,rfl,hb14⟩
    clear F12
    have H15:=Lib.hid (H11.out.below hb14)
    clear hb14 H11
    have F16:=H15.out.sees
    simp only [sees,af,ae,ag,Nat.add_zero,aa,Nat.reduceAdd] at F16
    obtain ⟨⟨⟨z0,fz0⟩,c00,c01,c02,-⟩,⟨z1,c10,c11,c12,-⟩,-⟩:=F16
    go_upto_region 11 with fail
    have y17:=z0
    have y18:=z1
    clear z0 fz0 c00 c01 c02 z1 c10 c11 c12
    have H19:=Lib.hid (H15.out.var w13.heap.size 65 [.bool mf,.int .u8 (ma:Nat),.int .i64 mn,.string ⟨mt.toArray⟩,.slice ta tn tc] rfl)
    clear H15
    generalize (w13.alloc (.cells #[.bool mf,.int .u8 (ma:Nat),.int .i64 mn,.string ⟨mt.toArray⟩,.slice ta tn tc] 65))=W20 at H19 ⊢
    have F21:=sE H19
    by_cases her:er=0
    ·subst her
     go_wp2_with fail
     go_roundw
     case rel=>exact ⟨i+1,by omega,by go_num,keep (HNX.out (by rw [HFA.out,if_neg HXI.out,HRE.out])),Lib.hid (H19.out.drop _ (by simp))⟩
     case measure=>simp [intOf]; omega
    have hne:=her
    have herb:(er != 0)=true:=by simpa using her
    clear her
    have HF:=keep (show zv l i=er by rw [HFA.out]; rw [if_neg HXI.out,HRE.out])
    have hv2:=HAX.out (by rw [HF.out]; exact hne)
    rw [HF.out] at hv2
    subst hv2
    go_wp2_with fail
    exact bodyPost_ret (v:=.tuple #[.int .i64 (i:Int),.int .i64 er]) (by simp [results,results20,go_sem]) rfl ⟨rfl,H19.out.bel⟩
   have hip:0<i:=by omega
   obtain ⟨y,hy⟩:=HPV.out hip
   obtain ⟨i1,hi1⟩:=ex (i - 1)
   rw [hi1] at hy
   have HPY:=keep (show Aw l i=some y by rw [HP1.out hip,hi1,hy])
   obtain ⟨b2,o2,ha2,hB2,hc2⟩:=z7 (HR.out.below H8.out.bel) (i:=i1) (r:=r5 y) (by rw [List.getElem?_map,hy]; rfl)
   injection ha2 with ha2
   injection ha2 with ha3 ha4 ha5
   subst ha3 ha4
   clear ha5
   have hcl2:=qX (w:=w6) (b:=b1) (o:=o1+i1 * 3) (r5 y) hc2
   obtain ⟨pc,pr,pi⟩:=y
   have hi0i:(0:Int)<(i:Int):=by omega
   have hi0n:decide (0<i)=true:=decide_eq_true hip
   have hi1w:(i:Int) - 1=(i1:Int):=by omega
   have hi1n:(i1:Int)<(n:Int):=by omega
   have hi1x:IntKind.i64.wrap (i1:Int)=(i1:Int):=Go.IntWalk.i64_in _ (by omega)
   clear F9
   have H10:=Lib.hid (H8.out.add (ae b1 (o1+i1 * 3) [.int .i64 pc,.int .i64 pr,.string ⟨pi.toArray⟩]) ⟨hB2,hcl2⟩)
   clear H8 hcl2 hc2 hB2 hy hi1 hi0 hip
   have F11:=sE H10
   obtain ⟨lb,hlb⟩:=ex (zV pc pr xc xr)
   have HLB:=keep hlb
   clear hlb
   cases lb
   ·go_upto_region 6 with fail
    refine wp_region_held_drew (S:=fun W=>Ok w [ae b1 (o1+i1 * 3) [.int .i64 pc,.int .i64 pr,.string ⟨pi.toArray⟩],af (wq.heap.size) 48 [.int .i64 xc,.int .i64 xr,.string X],ae b1 (o1+i * 3) [.int .i64 xc,.int .i64 xr,.string X]] W) (by kernel_rfl) H10.out.drew (fun hHeld => ?_)
    refine wt3 0 ?_
    refine wt3 1 ?_
    refine wt3 2 ?_
    refine wt3 3 ?_
    refine wt3 4 ?_
    refine wt3 5 ?_
    refine wt3 6 ?_
    refine wt3 7 ?_
    refine wt3 8 ?_
    refine wt3 9 ?_
    refine wt3 10 ?_
    refine wal 11 fun K hK => ?_
    go_simp
    refine (AX pc pr xc xr _).mono ?_
    rintro e w13 ⟨rfl,hb14⟩
    rw [HLB.out]
    go_wp2_with fail
    refine hK.out _ _ (hHeld.below hb14) (fun hHeld => ?_)
    clear hK K
    refine wn ?_
    refine wt3 12 ?_
    refine wt3 13 ?_
    refine wpAnyH_done (by kernel_rfl) ?_ _
    clear F11
    clear H10
    have H15:=Lib.hid hHeld
    clear hHeld
    have F16:=sE H15
    have HF:=keep (show zv l i=12 by rw [HFA.out]; unfold AK; rw [if_neg (by rw [HVB.out]; decide),if_pos (by rw [HPY.out,Option.map_some,HLB.out])])
    have hv2:=HAX.out (by rw [HF.out]; decide)
    rw [HF.out] at hv2
    subst hv2
    go_wp2_with fail
    exact bodyPost_ret (v:=.tuple #[.int .i64 (i:Int),.int .i64 12]) (by simp [results,results20,go_sem]) rfl ⟨rfl,H15.out.bel⟩
   go_upto_region 6 with fail
   refine wp_region_held_drew (S:=fun W=>Ok w [ae b1 (o1+i1 * 3) [.int .i64 pc,.int .i64 pr,.string ⟨pi.toArray⟩],af (wq.heap.size) 48 [.int .i64 xc,.int .i64 xr,.string X],ae b1 (o1+i * 3) [.int .i64 xc,.int .i64 xr,.string X]] W) (by kernel_rfl) H10.out.drew (fun hHeld => ?_)
   refine wt3 0 ?_
   refine wt3 1 ?_
   refine wt3 2 ?_
   refine wt3 3 ?_
   refine wt3 4 ?_
   refine wt3 5 ?_
   refine wt3 6 ?_
   refine wt3 7 ?_
   refine wt3 8 ?_
   refine wt3 9 ?_
   refine wt3 10 ?_
   refine wal 11 fun K hK => ?_
   go_simp
   refine (AX pc pr xc xr _).mono ?_
   rintro e w13 ⟨rfl,hb14⟩
   rw [HLB.out]
   go_wp2_with fail
   refine hK.out _ _ (hHeld.below hb14) (fun hHeld => ?_)
   clear hK K
   refine wn ?_
   refine wt3 12 ?_
   refine wt3 13 ?_
   refine wpAnyH_done (by kernel_rfl) ?_ _
   clear F11
   clear H10
   have H15:=Lib.hid hHeld
   clear hHeld
   have F16:=sE H15
   have HFE:=keep (show zv l i=if xi=[] then 2 else (aV xi).2.2 by rw [HFA.out]; unfold AK; rw [if_neg (by rw [HVB.out]; decide),if_neg (by rw [HPY.out,Option.map_some,HLB.out]; simp)])
   clear HFA
   have HFA:=HFE
   by_cases hxi:xi=[]
   ·have HXI:=keep hxi
    have hx0:X=⟨#[]⟩:=by rw [← HX.out,hxi]
    subst hx0
    clear hxi
    have HF:=keep (show zv l i=2 by rw [HFA.out]; rw [if_pos HXI.out])
    have hv2:=HAX.out (by rw [HF.out]; decide)
    rw [HF.out] at hv2
    subst hv2
    go_wp2_with fail
    exact bodyPost_ret (v:=.tuple #[.int .i64 (i:Int),.int .i64 2]) (by simp [results,results20,go_sem]) rfl ⟨rfl,H15.out.bel⟩
   have hxe:X.toList.isEmpty=false:=by rw [← HX.out,ByteArray.toList_mk]; cases xi with | nil=>exact absurd rfl hxi | cons _ _=>rfl
   have HXI:=keep hxi
   clear hxi
   have hof:=fun W hW=>js X W hW
   rw [show X.data.toList=xi by rw [← HX.out]] at hof
   unfold ku at hof
   obtain ⟨R,hR⟩:=ex (aV xi)
   have HRE:=keep (show (aV xi).2.2=R.2.2 by rw [hR])
   rw [hR] at hof
   obtain ⟨m,at_,er⟩:=R
   obtain ⟨mf,⟨ma,mn,mt⟩,mtr⟩:=m
   dsimp only at hof HRE
   have HOF:=keep (fun W (hW:Words W)=>(hof W hW).mono (R':=fun e w'=>∃ ta tn tc,e=.returned (.tuple #[.agg #[.bool mf,.int .u8 (ma:Nat),.int .i64 mn,.string ⟨mt.toArray⟩,.slice ta tn tc],.int .i64 at_,.int .i64 er])∧Below W.heap.size W w') (by
    rintro e w' ⟨tv,rfl,g1,g2⟩
    obtain ⟨ta,tc,rfl⟩:=bp g1
    exact ⟨ta,_,tc,rfl,g2⟩))
   clear hof hR
   go_wp2_with fail
   refine (HOF.out _ (HW.out.below H15.out.bel)).mono ?_
   rintro e w17 ⟨ta,tn,tc,rfl,hb18⟩
   clear F16
   have H19:=Lib.hid (H15.out.below hb18)
   clear hb18 H15
   have F20:=H19.out.sees
   simp only [sees,af,ae,ag,Nat.add_zero,aa,Nat.reduceAdd] at F20
   obtain ⟨⟨z0,c00,c01,c02,-⟩,⟨⟨z1,fz1⟩,c10,c11,c12,-⟩,⟨z2,c20,c21,c22,-⟩,-⟩:=F20
   go_upto_region 11 with fail
   have y21:=z0
   have y22:=z1
   have y23:=z2
   clear z0 c00 c01 c02 z1 fz1 c10 c11 c12 z2 c20 c21 c22
   have H24:=Lib.hid (H19.out.var w17.heap.size 65 [.bool mf,.int .u8 (ma:Nat),.int .i64 mn,.string ⟨mt.toArray⟩,.slice ta tn tc] rfl)
   clear H19
   generalize (w17.alloc (.cells #[.bool mf,.int .u8 (ma:Nat),.int .i64 mn,.string ⟨mt.toArray⟩,.slice ta tn tc] 65))=W25 at H24 ⊢
   have F26:=sE H24
   by_cases her:er=0
   ·subst her
    go_wp2_with fail
    go_roundw
    case rel=>exact ⟨i+1,by omega,by go_num,keep (HNX.out (by rw [HFA.out,if_neg HXI.out,HRE.out])),Lib.hid (H24.out.drop _ (by simp))⟩
    case measure=>simp [intOf]; omega
   have hne:=her
   have herb:(er != 0)=true:=by simpa using her
   clear her
   have HF:=keep (show zv l i=er by rw [HFA.out]; rw [if_neg HXI.out,HRE.out])
   have hv2:=HAX.out (by rw [HF.out]; exact hne)
   rw [HF.out] at hv2
   subst hv2
   go_wp2_with fail
   exact bodyPost_ret (v:=.tuple #[.int .i64 (i:Int),.int .i64 er]) (by simp [results,results20,go_sem]) rfl ⟨rfl,H24.out.bel⟩
  obtain rfl:i=n:=by omega
  have hv2:=HNO.out (by rw [HN.out]; exact HJ.out)
  subst hv2
  go_wp2_with fail
  exact bodyPost_ret (v:=.tuple #[.int .i64 0,.int .i64 0]) (by simp [results,results20,go_sem]) rfl ⟨rfl,HQ.out.bel⟩
