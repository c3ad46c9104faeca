/- entry.Of. -/
import Derived.Test.YtdplcdhpnmcdjaaGreatDoorEEnb
import Derived.Test.YtdplcdhpnmcdjaaGreatDoorETg
import Derived.Test.YtdplcdhpnmcdjaaGreatDoorEEna
import Derived.Test.YtdplcdhpnmcdjaaGreatDoorEForB
import Derived.Test.YtdplcdhpnmcdjaaGreatDoorELexO
import Derived.Test.YtdplcdhpnmcdjaaGreatDoorERvk
namespace Go.Proofs.YtdplcdhpnmcdjaaGreatDoor
set_option maxRecDepth 100000
set_option maxHeartbeats 8000000
open Go.RowKit Go.Proofs.Tryz
def mnV (m:Mn) (tv:Value):Value:=.agg #[.bool m.f,.int .u8 (m.v.1:Nat),.int .i64 m.v.2.1,.string ⟨m.v.2.2.toArray⟩,tv]
def ku (l:List UInt8) (w:World) (e:Ending) (w':World):Prop :=
 ∃ tv,e=.returned (.tuple #[mnV (aV l).1 tv,.int .i64 (aV l).2.1,.int .i64 (aV l).2.2])∧w'.ownsRow w.heap.size 39 11 tv (aV l).1.t.length (de (aV l).1.t)∧Below w.heap.size w w'
theorem of_nil {l:List UInt8} {w w':World} {a e:Int} {ed:Ending} (h:aV l=(Mn.none,a,e)) (h1:ed=.returned (.tuple #[.agg #[.bool false,.int .u8 0,.int .i64 0,.string ⟨#[]⟩,.slice none 0 0],.int .i64 a,.int .i64 e])) (h2:Below w.heap.size w w'):ku l w ed w' :=
 ⟨.slice none 0 0,by rw [h]; exact h1,by rw [h]; exact World.ownsRow_nil _ _ _ _,h2⟩
theorem nh {s : ByteArray} {k : Nat} (h : k < s.size) : aC (s.extract k (k + 1)).data.toList = if aj (s[k]'h) then 0 else 4:=by
 have e : (s.extract k (k + 1)).data.toList = [s[k]'h]:=by
  rw [Lib.extract_data]
  have hl:k<s.data.toList.length:=by rw [cX]; exact h
  rw [List.drop_eq_getElem_cons hl,show k+1 - k=1 by omega]
  rfl
 rw [e]
 unfold aC
 rw [if_neg (by show ¬ 256<1; decide)]
 simp
theorem li {l:List UInt8} {c:UInt8}:Lib.hasPrefix l [c]=decide (l.head?=some c)∧(l.head?=some c→Lib.trimPrefix l [c]=l.tail):=by
 cases l with
 | nil=>exact ⟨rfl,fun h=>by cases h⟩
 | cons b r =>
  by_cases h:b=c
  ·subst h
   exact ⟨by simp [Lib.hasPrefix],fun _=>by simp [Lib.trimPrefix,Lib.hasPrefix]⟩
  refine ⟨?_,fun g=>absurd (Option.some.inj g) h⟩
  have h2:¬ some b=some c:=fun g=>h (Option.some.inj g)
  rw [show (b::r).head?=some b from rfl,decide_eq_false h2]
  show (c == b && ([]:List UInt8).isPrefixOf r)=false
  rw [beq_eq_false_iff_ne.2 (fun g=>h (Eq.symm g))]
  rfl
theorem js (s:ByteArray) (w:World) (hw:Words w) :
  Calls prog 35 #[.string s] w (ku s.data.toList w):=by
 have HW:=keep hw
 clear hw
 obtain ⟨P,hP⟩:∃ P:Ending→World→Prop,ku s.data.toList w=P:=⟨_,rfl⟩
 rw [hP]
 have HPP:=keep hP
 clear hP
 have hl:s.data.toList.length=s.size:=cX s
 have HL:=keep hl
 clear hl
 by_cases hlong:(s.size:Int)>256
 ·have HM:=keep (kH (l:=s.data.toList) (by rw [HL.out]; omega))
  have H1:=Lib.hid ((Ok.start w).var w.heap.size 65 [.bool false,.int .u8 0,.int .i64 0,.string ⟨#[]⟩,.slice none 0 0] rfl)
  go_enter func35,ntmps35
  go_upto_region 1 with fail
  generalize (w.alloc (.cells #[.bool false,.int .u8 0,.int .i64 0,.string ⟨#[]⟩,.slice none 0 0] 65))=W2 at H1 ⊢
  have F3:=sE H1
  go_wp2_with fail
  try rw [Exit.noGoto_ret]
  have HE:=Lib.hid (((((H1.out.set_ (i:=0) (u:=.bool false) (Nat.le_refl _) (fun x hx=>absurd hx (by simp))).set_ (i:=1) (u:=.int .u8 0) (Nat.le_refl _) (fun x hx=>absurd hx (by simp))).set_ (i:=2) (u:=.int .i64 0) (Nat.le_refl _) (fun x hx=>absurd hx (by simp))).set_ (i:=3) (u:=.string ⟨#[]⟩) (Nat.le_refl _) (fun x hx=>absurd hx (by simp))).set_ (i:=4) (u:=.slice none 0 0) (Nat.le_refl _) (fun x hx=>absurd hx (by simp)))
  have F9:=HE.out.sees
  simp only [sees,af,aa,Nat.reduceAdd,List.set_cons_succ,List.set_cons_zero] at F9
  obtain ⟨⟨⟨y0,g0⟩,r0,r1,r2,r3,r4,-⟩,-⟩:=F9
  have hpp:=HPP.out
  subst hpp
  exact bodyPost_ret (v:=.tuple #[.agg #[.bool false,.int .u8 0,.int .i64 0,.string ⟨#[]⟩,.slice none 0 0],.int .i64 0,.int .i64 5]) (by simp [results,results35,go_sem,r0,r1,r2,r3,r4]) rfl (of_nil HM.out rfl HE.out.bel)
 have h256:¬ 256<s.data.toList.length:=by rw [HL.out]; omega
 have H256:=keep h256
 have hsz:s.size≤256:=by omega
 clear h256
 have H1:=Lib.hid ((Ok.start w).var w.heap.size 65 [.bool false,.int .u8 0,.int .i64 0,.string ⟨#[]⟩,.slice none 0 0] rfl)
 go_enter func35,ntmps35
 go_upto_region 1 with fail
 generalize (w.alloc (.cells #[.bool false,.int .u8 0,.int .i64 0,.string ⟨#[]⟩,.slice none 0 0] 65))=W2 at H1 ⊢
 have F3:=sE H1
 go_wp2_with fail
 clear F3
 go_loopw [15] (fun kv wr=>∃ k:Nat,k≤s.size∧kv=.int .i64 (k:Int)∧ao (∀ b∈s.data.toList.take k,aj b=true)∧Hid (Ok w [af w.heap.size 65 [.bool false,.int .u8 0,.int .i64 0,.string ⟨#[]⟩,.slice none 0 0]] wr)) (fun kv _=>s.size - (intOf kv).toNat)
 case atStart=>exact ⟨0,Nat.zero_le _,rfl,keep (by simp),H1⟩
 case round =>
  clear H1
  obtain ⟨k,hk,rfl,HJ,HQ⟩:=hrel
  obtain ⟨wq,rfl⟩:∃ wq:World,wq=wr:=⟨_,rfl⟩
  by_cases hlt:(k:Int)<(s.size:Int)
  ·have hks:k<s.size:=by omega
   have hcc:=nh hks
   have HN:=keep (show ∀ h : aj (s[k]'hks) = true,∀ b ∈ s.data.toList.take (k + 1),aj b = true from fun h b hb => by
    rw [List.take_succ_eq_append_getElem (by rw [HL.out]; exact hks)] at hb
    rcases List.mem_append.1 hb with hb | hb
    ·exact HJ.out b hb
    rw [List.mem_singleton.1 hb]; exact h)
   have HB:=keep (fun h : aj (s[k]'hks) = false => qd (k:=k) H256.out (by rw [HL.out]; exact hks) HJ.out h)
   obtain ⟨pb,hpb⟩:=ex (aj (s[k]'hks))
   rw [hpb] at hcc HN HB
   obtain ⟨q,hq⟩:=ex (k+1)
   have hqi:(k:Int)+1=(q:Int):=by omega
   have hqs:(q:Int)≤(s.size:Int):=by omega
   have hkq:(k:Int)≤(q:Int):=by omega
   rw [hq] at hcc
   have HGC:=keep (fun W:World=>fp (s.extract k q) W (by rw [ByteArray.size_extract]; omega))
   rw [hcc] at HGC
   have HQK:=keep hq
   clear hcc hpb hq
   have F4:=sE HQ
   go_wp2_with fail
   refine cM (HGC.out _) HQ fun w5 H7=>?_
   clear F4 HQ
   have F8:=sE H7
   cases pb
   ·have HM:=keep (HB.out rfl)
    clear HB HN
    simp only [Bool.false_eq_true,if_false]
    go_wp2_with fail
    try rw [Exit.noGoto_ret]
    have HE:=Lib.hid (((((H7.out.set_ (i:=0) (u:=.bool false) (Nat.le_refl _) (fun x hx=>absurd hx (by simp))).set_ (i:=1) (u:=.int .u8 0) (Nat.le_refl _) (fun x hx=>absurd hx (by simp))).set_ (i:=2) (u:=.int .i64 0) (Nat.le_refl _) (fun x hx=>absurd hx (by simp))).set_ (i:=3) (u:=.string ⟨#[]⟩) (Nat.le_refl _) (fun x hx=>absurd hx (by simp))).set_ (i:=4) (u:=.slice none 0 0) (Nat.le_refl _) (fun x hx=>absurd hx (by simp)))
    have F9:=HE.out.sees
    simp only [sees,af,aa,Nat.reduceAdd,List.set_cons_succ,List.set_cons_zero] at F9
    obtain ⟨⟨⟨y0,g0⟩,r0,r1,r2,r3,r4,-⟩,-⟩:=F9
    have hpp:=HPP.out
    subst hpp
    exact bodyPost_ret (v:=.tuple #[.agg #[.bool false,.int .u8 0,.int .i64 0,.string ⟨#[]⟩,.slice none 0 0],.int .i64 (k:Int),.int .i64 4]) (by simp [results,results35,go_sem,r0,r1,r2,r3,r4]) rfl (of_nil HM.out rfl HE.out.bel)
   have HN2:=keep (HN.out rfl)
   clear HB HN
   simp only [if_true]
   go_wp2_with fail
   go_roundw
   case rel=>exact ⟨q,by omega,by go_num,by rw [← HQK.out]; exact HN2,H7⟩
   case measure=>simp [intOf]; omega
  obtain rfl:k=s.size:=by omega
  have hall:s.data.toList.all aj=true:=by
   have h:=HJ.out
   rw [← HL.out,List.take_length] at h
   exact List.all_eq_true.2 h
  have hck:aC s.data.toList=0:=by
   unfold aC
   rw [if_neg H256.out,if_pos hall]
  have HCN:=keep (fun (W:World) (h:Words W)=>jt s hsz hck W h)
  have HMC:=keep (fun h=>eN (l:=s.data.toList) H256.out hall h)
  have HMF:=keep (fun h1 h2=>fT (l:=s.data.toList) H256.out hall h1 h2)
  have HMX:=keep (fun h1 h2=>gy (l:=s.data.toList) H256.out hall h1 h2)
  obtain ⟨hc1,hc2⟩:=li (l:=s.data.toList) (c:=61)
  have HC2:=keep hc2
  obtain ⟨X,hX⟩:∃ X:ByteArray,(⟨(Lib.trimPrefix s.data.toList [61]).toArray⟩:ByteArray)=X:=⟨_,rfl⟩
  obtain ⟨B,hB⟩:∃ B:Bool,Lib.hasPrefix s.data.toList [61]=B:=⟨_,rfl⟩
  have HX:=keep hX
  have HB:=keep hB
  have HB2:=keep (hc1.symm.trans hB)
  have hXs:X.size≤256:=by
   rw [← hX]
   show (Lib.trimPrefix s.data.toList [61]).toArray.size≤_
   rw [List.size_toArray]
   by_cases h:s.data.toList.head?=some 61
   ·rw [hc2 h,List.length_tail,HL.out]; omega
   have:Lib.trimPrefix s.data.toList [61]=s.data.toList:=by
    unfold Lib.trimPrefix
    rw [hc1,decide_eq_false h]; rfl
   rw [this,HL.out]; exact hsz
  clear hc1 hc2 hX hB hall hck
  have F4:=sE HQ
  go_wp2_with fail
  refine (Tryz.strings_CutPrefix s ⟨#[61]⟩ _).mono ?_
  rintro e w9 ⟨rfl,hw9⟩
  obtain rfl:wq=w9:=hw9.symm
  have hX:(⟨(Lib.trimPrefix s.data.toList (⟨#[61]⟩:ByteArray).data.toList).toArray⟩:ByteArray)=X:=HX.out
  have hB:Lib.hasPrefix s.data.toList (⟨#[61]⟩:ByteArray).data.toList=B:=HB.out
  rw [hX,hB]
  clear hX hB
  cases B
  ·have HM:=keep (HMC.out (of_decide_eq_false HB2.out))
   obtain ⟨cv,hcv⟩:=ex (be s.data.toList)
   rw [hcv] at HM HCN
   unfold vlV at HCN
   clear hcv HMF HMX
   obtain ⟨a1,n1,t1⟩:=cv
   dsimp only at HCN
   go_wp2_with fail
   refine cM (HCN.out _ (HW.out.below HQ.out.bel)) HQ fun w5 H7=>?_
   clear F4 HQ
   have F8:=sE H7
   go_wp2_with fail
   try rw [Exit.noGoto_ret]
   have HE:=Lib.hid (((((H7.out.set_ (i:=0) (u:=.bool false) (Nat.le_refl _) (fun x hx=>absurd hx (by simp))).set_ (i:=1) (u:=.int .u8 (a1:Nat)) (Nat.le_refl _) (fun x hx=>absurd hx (by simp))).set_ (i:=2) (u:=.int .i64 n1) (Nat.le_refl _) (fun x hx=>absurd hx (by simp))).set_ (i:=3) (u:=.string ⟨t1.toArray⟩) (Nat.le_refl _) (fun x hx=>absurd hx (by simp))).set_ (i:=4) (u:=.slice none 0 0) (Nat.le_refl _) (fun x hx=>absurd hx (by simp)))
   have F9:=HE.out.sees
   simp only [sees,af,aa,Nat.reduceAdd,List.set_cons_succ,List.set_cons_zero] at F9
   obtain ⟨⟨⟨y0,g0⟩,r0,r1,r2,r3,r4,-⟩,-⟩:=F9
   have hpp:=HPP.out
   subst hpp
   exact bodyPost_ret (v:=.tuple #[.agg #[.bool false,.int .u8 (a1:Nat),.int .i64 n1,.string ⟨t1.toArray⟩,.slice none 0 0],.int .i64 0,.int .i64 0]) (by simp [results,results35,go_sem,r0,r1,r2,r3,r4]) rfl (⟨.slice none 0 0,by rw [HM.out]; rfl,by rw [HM.out]; exact World.ownsRow_nil _ _ _ _,HE.out.bel⟩)
  have hhd:=of_decide_eq_true HB2.out
  have hXl:X.data.toList=s.data.toList.tail:=by rw [← HX.out,HC2.out hhd]
  have HPF:=keep (fun (W:World) (h:Words W)=>km X W (by omega) h)
  unfold kY at HPF
  rw [hXl] at HPF
  have hrng:0≤(bo s.data.toList.tail).2.1∧(bo s.data.toList.tail).2.1≤1000:=by
   rcases gu s.data.toList.tail with ⟨a,e,h,-,h1,h2⟩ | ⟨_,_,_,h,-⟩
   ·rw [h]
    have h3:=H256.out
    rw [List.length_tail] at h2
    exact ⟨h1,by show a≤1000; omega⟩
   rw [h]; exact ⟨Int.le_refl _,(by decide:(0:Int)≤1000)⟩
  obtain ⟨R,hR⟩:=ex (bo s.data.toList.tail)
  have hm1:=HMF.out hhd
  have hm2:=HMX.out hhd
  rw [hR] at HPF hm1 hm2 hrng
  obtain ⟨tr,ra,re⟩:=R
  dsimp only at HPF hm1 hm2 hrng
  have HM1:=keep hm1
  have HM2:=keep hm2
  clear hR hXl hhd hm1 hm2 HMC HMF HMX
  go_wp2_with fail
  refine (HPF.out _ (HW.out.below HQ.out.bel)).mono ?_
  rintro e w5 ⟨tv,rfl,hown,hb6⟩
  clear F4
  have HOR:=Lib.hid (an.of_new HQ.out hb6 hown)
  obtain ⟨ta,tc,htv⟩:=bp hown
  subst htv
  have H7:=Lib.hid HOR.out.ok
  clear hb6 HQ hown
  have F8:=sE H7
  by_cases hre:re=0
  ·subst hre
   have HM:=keep (HM1.out rfl)
   clear HM1 HM2
   go_wp2_with fail
   try rw [Exit.noGoto_ret]
   have HE:=Lib.hid (((((HOR.out.set_ (i:=0) (u:=.bool true) (Nat.le_refl _) (fun x hx=>absurd hx (by simp))).set_ (i:=1) (u:=.int .u8 0) (Nat.le_refl _) (fun x hx=>absurd hx (by simp))).set_ (i:=2) (u:=.int .i64 0) (Nat.le_refl _) (fun x hx=>absurd hx (by simp))).set_ (i:=3) (u:=.string ⟨#[]⟩) (Nat.le_refl _) (fun x hx=>absurd hx (by simp))).set_ (i:=4) (u:=.slice ta tr.length tc) (Nat.le_refl _) (fun x hx=>absurd hx (by simp)))
   have F9:=HE.out.ok.sees
   simp only [sees,af,aa,Nat.reduceAdd,List.set_cons_succ,List.set_cons_zero] at F9
   obtain ⟨⟨⟨y0,g0⟩,r0,r1,r2,r3,r4,-⟩,-⟩:=F9
   have hpp:=HPP.out
   subst hpp
   exact bodyPost_ret (v:=.tuple #[.agg #[.bool true,.int .u8 0,.int .i64 0,.string ⟨#[]⟩,.slice ta tr.length tc],.int .i64 0,.int .i64 0]) (by simp [results,results35,go_sem,r0,r1,r2,r3,r4]) rfl ⟨.slice ta tr.length tc,by rw [HM.out]; rfl,by rw [HM.out]; exact HE.out.own,HE.out.ok.bel⟩
  have HM:=keep (HM2.out hre)
  have hreb:(re != 0)=true:=by simp [hre]
  clear HM1 HM2
  obtain ⟨hr0,hr1⟩:=hrng
  have hraw:IntKind.i64.wrap (ra+1)=ra+1:=Go.IntWalk.i64_in _ (by omega)
  go_wp2_with fail
  try rw [Exit.noGoto_ret]
  have HE:=Lib.hid (((((H7.out.set_ (i:=0) (u:=.bool false) (Nat.le_refl _) (fun x hx=>absurd hx (by simp))).set_ (i:=1) (u:=.int .u8 0) (Nat.le_refl _) (fun x hx=>absurd hx (by simp))).set_ (i:=2) (u:=.int .i64 0) (Nat.le_refl _) (fun x hx=>absurd hx (by simp))).set_ (i:=3) (u:=.string ⟨#[]⟩) (Nat.le_refl _) (fun x hx=>absurd hx (by simp))).set_ (i:=4) (u:=.slice none 0 0) (Nat.le_refl _) (fun x hx=>absurd hx (by simp)))
  have F9:=HE.out.sees
  simp only [sees,af,aa,Nat.reduceAdd,List.set_cons_succ,List.set_cons_zero] at F9
  obtain ⟨⟨⟨y0,g0⟩,r0,r1,r2,r3,r4,-⟩,-⟩:=F9
  have hpp:=HPP.out
  subst hpp
  exact bodyPost_ret (v:=.tuple #[.agg #[.bool false,.int .u8 0,.int .i64 0,.string ⟨#[]⟩,.slice none 0 0],.int .i64 (ra+1),.int .i64 re]) (by simp [results,results35,go_sem,r0,r1,r2,r3,r4]) rfl (of_nil HM.out rfl HE.out.bel)
