/- tree.fields at any node, as the walks of trees want it. Trees that were handed in. entry.Of. show.Literal and show.own. louvreref08.Literal at any value. show.text and its closure. -/
import Derived.Test.YtdplcdhpnmcdjaaGreatDoorKTwk
import Derived.Test.YtdplcdhpnmcdjaaGreatDoorKGiv
import Derived.Test.YtdplcdhpnmcdjaaGreatDoorKEnb
import Derived.Test.YtdplcdhpnmcdjaaGreatDoorKTg
import Derived.Test.YtdplcdhpnmcdjaaGreatDoorKRqF
import Derived.Test.YtdplcdhpnmcdjaaGreatDoorKForB
import Derived.Test.YtdplcdhpnmcdjaaGreatDoorKLexG
namespace Go.Proofs.YtdplcdhpnmcdjaaGreatDoor
open Go.RowKit
structure zr (a:NdA):Prop where
 num : -9223372036854775808≤a.vn∧a.vn≤9223372036854775807
 txt:a.vt.length≤maxLen
 fnb:a.fn≤255
set_option maxRecDepth 100000
set_option maxHeartbeats 8000000
open Go.RowKit Go.Proofs.Tryz
def mnV (m:Mn) (tv:Value):Value:=.agg #[.bool m.f,.int .u8 (m.v.1:Nat),.int .i64 m.v.2.1,.string ⟨m.v.2.2.toArray⟩,tv]
def ku (l:List UInt8) (w:World) (e:Ending) (w':World):Prop :=
 ∃ tv,e=.returned (.tuple #[mnV (aV l).1 tv,.int .i64 (aV l).2.1,.int .i64 (aV l).2.2])∧w'.ownsRow w.heap.size 39 11 tv (aV l).1.t.length (de (aV l).1.t)∧Below w.heap.size w w'
theorem of_nil {l:List UInt8} {w w':World} {a e:Int} {ed:Ending} (h:aV l=(Mn.none,a,e)) (h1:ed=.returned (.tuple #[.agg #[.bool false,.int .u8 0,.int .i64 0,.string ⟨#[]⟩,.slice none 0 0],.int .i64 a,.int .i64 e])) (h2:Below w.heap.size w w'):ku l w ed w' :=
 ⟨.slice none 0 0,by rw [h]; exact h1,by rw [h]; exact World.ownsRow_nil _ _ _ _,h2⟩
theorem nh {s : ByteArray} {k : Nat} (h : k < s.size) : aC (s.extract k (k + 1)).data.toList = if aj (s[k]'h) then 0 else 4:=by
 have e : (s.extract k (k + 1)).data.toList = [s[k]'h]:=by
  rw [Lib.extract_data]
  have hl:k<s.data.toList.length:=by rw [cX]; exact h
  rw [List.drop_eq_getElem_cons hl,show k+1 - k=1 by omega]
  rfl
 rw [e]
 unfold aC
 rw [if_neg (by show ¬ 256<1; decide)]
 simp
theorem li {l:List UInt8} {c:UInt8}:Lib.hasPrefix l [c]=decide (l.head?=some c)∧(l.head?=some c→Lib.trimPrefix l [c]=l.tail):=by
 cases l with
 | nil=>exact ⟨rfl,fun h=>by cases h⟩
 | cons b r =>
  by_cases h:b=c
  ·subst h
   exact ⟨by simp [Lib.hasPrefix],fun _=>by simp [Lib.trimPrefix,Lib.hasPrefix]⟩
  refine ⟨?_,fun g=>absurd (Option.some.inj g) h⟩
  have h2:¬ some b=some c:=fun g=>h (Option.some.inj g)
  rw [show (b::r).head?=some b from rfl,decide_eq_false h2]
  show (c == b && ([]:List UInt8).isPrefixOf r)=false
  rw [beq_eq_false_iff_ne.2 (fun g=>h (Eq.symm g))]
  rfl
theorem js (s:ByteArray) (w:World) (hw:Words w) :
  Calls prog 35 #[.string s] w (ku s.data.toList w):=by
 have HW:=keep hw
 clear hw
 obtain ⟨P,hP⟩:∃ P:Ending→World→Prop,ku s.data.toList w=P:=⟨_,rfl⟩
 rw [hP]
 have HPP:=keep hP
 clear hP
 have hl:s.data.toList.length=s.size:=cX s
 have HL:=keep hl
 clear hl
 by_cases hlong:(s.size:Int)>256
 ·have HM:=keep (kH (l:=s.data.toList) (by rw [HL.out]; omega))
  have H1:=Lib.hid ((Ok.start w).var w.heap.size 65 [.bool false,.int .u8 0,.int .i64 0,.string ⟨#[]⟩,.slice none 0 0] rfl)
  go_enter func35,ntmps35
  go_upto_region 1 with fail
  generalize (w.alloc (.cells #[.bool false,.int .u8 0,.int .i64 0,.string ⟨#[]⟩,.slice none 0 0] 65))=W2 at H1 ⊢
  have F3:=sE H1
  go_wp2_with fail
  try rw [Exit.noGoto_ret]
  have HE:=Lib.hid (((((H1.out.set_ (i:=0) (u:=.bool false) (Nat.le_refl _) (fun x hx=>absurd hx (by simp))).set_ (i:=1) (u:=.int .u8 0) (Nat.le_refl _) (fun x hx=>absurd hx (by simp))).set_ (i:=2) (u:=.int .i64 0) (Nat.le_refl _) (fun x hx=>absurd hx (by simp))).set_ (i:=3) (u:=.string ⟨#[]⟩) (Nat.le_refl _) (fun x hx=>absurd hx (by simp))).set_ (i:=4) (u:=.slice none 0 0) (Nat.le_refl _) (fun x hx=>absurd hx (by simp)))
  have F9:=HE.out.sees
  simp only [sees,af,aa,Nat.reduceAdd,List.set_cons_succ,List.set_cons_zero] at F9
  obtain ⟨⟨⟨y0,g0⟩,r0,r1,r2,r3,r4,-⟩,-⟩:=F9
  have hpp:=HPP.out
  subst hpp
  exact bodyPost_ret (v:=.tuple #[.agg #[.bool false,.int .u8 0,.int .i64 0,.string ⟨#[]⟩,.slice none 0 0],.int .i64 0,.int .i64 5]) (by simp [results,results35,go_sem,r0,r1,r2,r3,r4]) rfl (of_nil HM.out rfl HE.out.bel)
 have h256:¬ 256<s.data.toList.length:=by rw [HL.out]; omega
 have H256:=keep h256
 have hsz:s.size≤256:=by omega
 clear h256
 have H1:=Lib.hid ((Ok.start w).var w.heap.size 65 [.bool false,.int .u8 0,.int .i64 0,.string ⟨#[]⟩,.slice none 0 0] rfl)
 go_enter func35,ntmps35
 go_upto_region 1 with fail
 generalize (w.alloc (.cells #[.bool false,.int .u8 0,.int .i64 0,.string ⟨#[]⟩,.slice none 0 0] 65))=W2 at H1 ⊢
 have F3:=sE H1
 go_wp2_with fail
 clear F3
 go_loopw [15] (fun kv wr=>∃ k:Nat,k≤s.size∧kv=.int .i64 (k:Int)∧ao (∀ b∈s.data.toList.take k,aj b=true)∧Hid (Ok w [af w.heap.size 65 [.bool false,.int .u8 0,.int .i64 0,.string ⟨#[]⟩,.slice none 0 0]] wr)) (fun kv _=>s.size - (intOf kv).toNat)
 case atStart=>exact ⟨0,Nat.zero_le _,rfl,keep (by simp),H1⟩
 case round =>
  clear H1
  obtain ⟨k,hk,rfl,HJ,HQ⟩:=hrel
  obtain ⟨wq,rfl⟩:∃ wq:World,wq=wr:=⟨_,rfl⟩
  by_cases hlt:(k:Int)<(s.size:Int)
  ·have hks:k<s.size:=by omega
   have hcc:=nh hks
   have HN:=keep (show ∀ h : aj (s[k]'hks) = true,∀ b ∈ s.data.toList.take (k + 1),aj b = true from fun h b hb => by
    rw [List.take_succ_eq_append_getElem (by rw [HL.out]; exact hks)] at hb
    rcases List.mem_append.1 hb with hb | hb
    ·exact HJ.out b hb
    rw [List.mem_singleton.1 hb]; exact h)
   have HB:=keep (fun h : aj (s[k]'hks) = false => qd (k:=k) H256.out (by rw [HL.out]; exact hks) HJ.out h)
   obtain ⟨pb,hpb⟩:=ex (aj (s[k]'hks))
   rw [hpb] at hcc HN HB
   obtain ⟨q,hq⟩:=ex (k+1)
   have hqi:(k:Int)+1=(q:Int):=by omega
   have hqs:(q:Int)≤(s.size:Int):=by omega
   have hkq:(k:Int)≤(q:Int):=by omega
   rw [hq] at hcc
   have HGC:=keep (fun W:World=>fp (s.extract k q) W (by rw [ByteArray.size_extract]; omega))
   rw [hcc] at HGC
   have HQK:=keep hq
   clear hcc hpb hq
   have F4:=sE HQ
   go_wp2_with fail
   refine cM (HGC.out _) HQ fun w5 H7=>?_
   clear F4 HQ
   have F8:=sE H7
   cases pb
   ·have HM:=keep (HB.out rfl)
    clear HB HN
    simp only [Bool.false_eq_true,if_false]
    go_wp2_with fail
    try rw [Exit.noGoto_ret]
    have HE:=Lib.hid (((((H7.out.set_ (i:=0) (u:=.bool false) (Nat.le_refl _) (fun x hx=>absurd hx (by simp))).set_ (i:=1) (u:=.int .u8 0) (Nat.le_refl _) (fun x hx=>absurd hx (by simp))).set_ (i:=2) (u:=.int .i64 0) (Nat.le_refl _) (fun x hx=>absurd hx (by simp))).set_ (i:=3) (u:=.string ⟨#[]⟩) (Nat.le_refl _) (fun x hx=>absurd hx (by simp))).set_ (i:=4) (u:=.slice none 0 0) (Nat.le_refl _) (fun x hx=>absurd hx (by simp)))
    have F9:=HE.out.sees
    simp only [sees,af,aa,Nat.reduceAdd,List.set_cons_succ,List.set_cons_zero] at F9
    obtain ⟨⟨⟨y0,g0⟩,r0,r1,r2,r3,r4,-⟩,-⟩:=F9
    have hpp:=HPP.out
    subst hpp
    exact bodyPost_ret (v:=.tuple #[.agg #[.bool false,.int .u8 0,.int .i64 0,.string ⟨#[]⟩,.slice none 0 0],.int .i64 (k:Int),.int .i64 4]) (by simp [results,results35,go_sem,r0,r1,r2,r3,r4]) rfl (of_nil HM.out rfl HE.out.bel)
   have HN2:=keep (HN.out rfl)
   clear HB HN
   simp only [if_true]
   go_wp2_with fail
   go_roundw
   case rel=>exact ⟨q,by omega,by go_num,by rw [← HQK.out]; exact HN2,H7⟩
   case measure=>simp [intOf]; omega
  obtain rfl:k=s.size:=by omega
  have hall:s.data.toList.all aj=true:=by
   have h:=HJ.out
   rw [← HL.out,List.take_length] at h
   exact List.all_eq_true.2 h
  have hck:aC s.data.toList=0:=by
   unfold aC
   rw [if_neg H256.out,if_pos hall]
  have HCN:=keep (fun (W:World) (h:Words W)=>jt s hsz hck W h)
  have HMC:=keep (fun h=>eN (l:=s.data.toList) H256.out hall h)
  have HMF:=keep (fun h1 h2=>fT (l:=s.data.toList) H256.out hall h1 h2)
  have HMX:=keep (fun h1 h2=>gy (l:=s.data.toList) H256.out hall h1 h2)
  obtain ⟨hc1,hc2⟩:=li (l:=s.data.toList) (c:=61)
  have HC2:=keep hc2
  obtain ⟨X,hX⟩:∃ X:ByteArray,(⟨(Lib.trimPrefix s.data.toList [61]).toArray⟩:ByteArray)=X:=⟨_,rfl⟩
  obtain ⟨B,hB⟩:∃ B:Bool,Lib.hasPrefix s.data.toList [61]=B:=⟨_,rfl⟩
  have HX:=keep hX
  have HB:=keep hB
  have HB2:=keep (hc1.symm.trans hB)
  have hXs:X.size≤256:=by
   rw [← hX]
   show (Lib.trimPrefix s.data.toList [61]).toArray.size≤_
   rw [List.size_toArray]
   by_cases h:s.data.toList.head?=some 61
   ·rw [hc2 h,List.length_tail,HL.out]; omega
   have:Lib.trimPrefix s.data.toList [61]=s.data.toList:=by
    unfold Lib.trimPrefix
    rw [hc1,decide_eq_false h]; rfl
   rw [this,HL.out]; exact hsz
  clear hc1 hc2 hX hB hall hck
  have F4:=sE HQ
  go_wp2_with fail
  refine (Tryz.strings_CutPrefix s ⟨#[61]⟩ _).mono ?_
  rintro e w9 ⟨rfl,hw9⟩
  obtain rfl:wq=w9:=hw9.symm
  have hX:(⟨(Lib.trimPrefix s.data.toList (⟨#[61]⟩:ByteArray).data.toList).toArray⟩:ByteArray)=X:=HX.out
  have hB:Lib.hasPrefix s.data.toList (⟨#[61]⟩:ByteArray).data.toList=B:=HB.out
  rw [hX,hB]
  clear hX hB
  cases B
  ·have HM:=keep (HMC.out (of_decide_eq_false HB2.out))
   obtain ⟨cv,hcv⟩:=ex (be s.data.toList)
   rw [hcv] at HM HCN
   unfold vlV at HCN
   clear hcv HMF HMX
   obtain ⟨a1,n1,t1⟩:=cv
   dsimp only at HCN
   go_wp2_with fail
   refine cM (HCN.out _ (HW.out.below HQ.out.bel)) HQ fun w5 H7=>?_
   clear F4 HQ
   have F8:=sE H7
   go_wp2_with fail
   try rw [Exit.noGoto_ret]
   have HE:=Lib.hid (((((H7.out.set_ (i:=0) (u:=.bool false) (Nat.le_refl _) (fun x hx=>absurd hx (by simp))).set_ (i:=1) (u:=.int .u8 (a1:Nat)) (Nat.le_refl _) (fun x hx=>absurd hx (by simp))).set_ (i:=2) (u:=.int .i64 n1) (Nat.le_refl _) (fun x hx=>absurd hx (by simp))).set_ (i:=3) (u:=.string ⟨t1.toArray⟩) (Nat.le_refl _) (fun x hx=>absurd hx (by simp))).set_ (i:=4) (u:=.slice none 0 0) (Nat.le_refl _) (fun x hx=>absurd hx (by simp)))
   have F9:=HE.out.sees
   simp only [sees,af,aa,Nat.reduceAdd,List.set_cons_succ,List.set_cons_zero] at F9
   obtain ⟨⟨⟨y0,g0⟩,r0,r1,r2,r3,r4,-⟩,-⟩:=F9
   have hpp:=HPP.out
   subst hpp
   exact bodyPost_ret (v:=.tuple #[.agg #[.bool false,.int .u8 (a1:Nat),.int .i64 n1,.string ⟨t1.toArray⟩,.slice none 0 0],.int .i64 0,.int .i64 0]) (by simp [results,results35,go_sem,r0,r1,r2,r3,r4]) rfl (⟨.slice none 0 0,by rw [HM.out]; rfl,by rw [HM.out]; exact World.ownsRow_nil _ _ _ _,HE.out.bel⟩)
  have hhd:=of_decide_eq_true HB2.out
  have hXl:X.data.toList=s.data.toList.tail:=by rw [← HX.out,HC2.out hhd]
  have HPF:=keep (fun (W:World) (h:Words W)=>km X W (by omega) h)
  unfold kY at HPF
  rw [hXl] at HPF
  have hrng:0≤(bo s.data.toList.tail).2.1∧(bo s.data.toList.tail).2.1≤1000:=by
   rcases gu s.data.toList.tail with ⟨a,e,h,-,h1,h2⟩ | ⟨_,_,_,h,-⟩
   ·rw [h]
    have h3:=H256.out
    rw [List.length_tail] at h2
    exact ⟨h1,by show a≤1000; omega⟩
   rw [h]; exact ⟨Int.le_refl _,(by decide:(0:Int)≤1000)⟩
  obtain ⟨R,hR⟩:=ex (bo s.data.toList.tail)
  have hm1:=HMF.out hhd
  have hm2:=HMX.out hhd
  rw [hR] at HPF hm1 hm2 hrng
  obtain ⟨tr,ra,re⟩:=R
  dsimp only at HPF hm1 hm2 hrng
  have HM1:=keep hm1
  have HM2:=keep hm2
  clear hR hXl hhd hm1 hm2 HMC HMF HMX
  go_wp2_with fail
  refine (HPF.out _ (HW.out.below HQ.out.bel)).mono ?_
  rintro e w5 ⟨tv,rfl,hown,hb6⟩
  clear F4
  have HOR:=Lib.hid (an.of_new HQ.out hb6 hown)
  obtain ⟨ta,tc,htv⟩:=bp hown
  subst htv
  have H7:=Lib.hid HOR.out.ok
  clear hb6 HQ hown
  have F8:=sE H7
  by_cases hre:re=0
  ·subst hre
   have HM:=keep (HM1.out rfl)
   clear HM1 HM2
   go_wp2_with fail
   try rw [Exit.noGoto_ret]
   have HE:=Lib.hid (((((HOR.out.set_ (i:=0) (u:=.bool true) (Nat.le_refl _) (fun x hx=>absurd hx (by simp))).set_ (i:=1) (u:=.int .u8 0) (Nat.le_refl _) (fun x hx=>absurd hx (by simp))).set_ (i:=2) (u:=.int .i64 0) (Nat.le_refl _) (fun x hx=>absurd hx (by simp))).set_ (i:=3) (u:=.string ⟨#[]⟩) (Nat.le_refl _) (fun x hx=>absurd hx (by simp))).set_ (i:=4) (u:=.slice ta tr.length tc) (Nat.le_refl _) (fun x hx=>absurd hx (by simp)))
   have F9:=HE.out.ok.sees
   simp only [sees,af,aa,Nat.reduceAdd,List.set_cons_succ,List.set_cons_zero] at F9
   obtain ⟨⟨⟨y0,g0⟩,r0,r1,r2,r3,r4,-⟩,-⟩:=F9
   have hpp:=HPP.out
   subst hpp
   exact bodyPost_ret (v:=.tuple #[.agg #[.bool true,.int .u8 0,.int .i64 0,.string ⟨#[]⟩,.slice ta tr.length tc],.int .i64 0,.int .i64 0]) (by simp [results,results35,go_sem,r0,r1,r2,r3,r4]) rfl ⟨.slice ta tr.length tc,by rw [HM.out]; rfl,by rw [HM.out]; exact HE.out.own,HE.out.ok.bel⟩
  have HM:=keep (HM2.out hre)
  have hreb:(re != 0)=true:=by simp [hre]
  clear HM1 HM2
  obtain ⟨hr0,hr1⟩:=hrng
  have hraw:IntKind.i64.wrap (ra+1)=ra+1:=Go.IntWalk.i64_in _ (by omega)
  go_wp2_with fail
  try rw [Exit.noGoto_ret]
  have HE:=Lib.hid (((((H7.out.set_ (i:=0) (u:=.bool false) (Nat.le_refl _) (fun x hx=>absurd hx (by simp))).set_ (i:=1) (u:=.int .u8 0) (Nat.le_refl _) (fun x hx=>absurd hx (by simp))).set_ (i:=2) (u:=.int .i64 0) (Nat.le_refl _) (fun x hx=>absurd hx (by simp))).set_ (i:=3) (u:=.string ⟨#[]⟩) (Nat.le_refl _) (fun x hx=>absurd hx (by simp))).set_ (i:=4) (u:=.slice none 0 0) (Nat.le_refl _) (fun x hx=>absurd hx (by simp)))
  have F9:=HE.out.sees
  simp only [sees,af,aa,Nat.reduceAdd,List.set_cons_succ,List.set_cons_zero] at F9
  obtain ⟨⟨⟨y0,g0⟩,r0,r1,r2,r3,r4,-⟩,-⟩:=F9
  have hpp:=HPP.out
  subst hpp
  exact bodyPost_ret (v:=.tuple #[.agg #[.bool false,.int .u8 0,.int .i64 0,.string ⟨#[]⟩,.slice none 0 0],.int .i64 (ra+1),.int .i64 re]) (by simp [results,results35,go_sem,r0,r1,r2,r3,r4]) rfl (of_nil HM.out rfl HE.out.bel)
set_option maxRecDepth 100000
set_option maxHeartbeats 4000000
def ff (k:Nat) (n:Int) (t:List UInt8):NdA:=⟨1,k,n,t,R4.zero,0,0,0⟩
theorem eC {w:World} {b:Nat} {a:NdA} (h:Blk w b 39 (dv a).toArray):bi w (some ⟨b,0,none⟩) 11 ([a].map dv):=by
 intro _
 refine ⟨b,0,rfl,h.lt,fun i r hi j v hj => ?_⟩
 cases i with
 | zero =>
  obtain rfl:=Option.some.inj hi
  rw [h.cell,Nat.zero_mul,Nat.zero_add,Nat.zero_add]
  simpa using hj
 | succ i=>cases hi
theorem dC (k:Nat) (n:Int) (t:List UInt8):(eW k n t→aI [ff k n t]=0)∧(¬ eW k n t→aI [ff k n t]≠0):=by
 constructor
 ·intro h
  have hg:aL ⟨1,k,n,t,R4.zero,0,0,0⟩:=.inl ⟨k,n,t,rfl,h⟩
  have e:[ff k n t]=[(⟨1,k,n,t,R4.zero,0,0,0⟩:Nd)].map Nd.any:=rfl
  rw [e,gm (by intro x hx; rw [List.mem_singleton] at hx; subst hx; exact hg)]
  rfl
 intro h h0
 have:=(fk h0).1 (ff k n t) (by simp)
 have:=(dX this).1
 rcases this with ⟨vk,vn,vt,e,hv⟩ | ⟨r,e,_⟩ | ⟨r,e,_⟩ | e | e | ⟨op,e,_⟩ | ⟨fn,k,e,_⟩
 ·have e1:k=vk:=congrArg Nd.vk e
  have e2:n=vn:=congrArg Nd.vn e
  have e3:t=vt:=congrArg Nd.vt e
  rw [e1,e2,e3] at h
  exact h hv
 all_goals (have:=congrArg Nd.kind e; simp [ff,NdA.nd,eu,cj,fz,dt,cN,da] at this)
theorem Dj {n:Int} (h0:0≤n):∀ a∈[ff 1 n []],AF a :=
 Ao (t:=[⟨1,1,n,[],R4.zero,0,0,0⟩]) (by intro x hx; rw [List.mem_singleton] at hx; subst hx; exact .inl ⟨1,n,[],rfl,.inl ⟨rfl,h0,rfl⟩⟩)
theorem mU (w:World) :
  Calls prog 90 #[] w fun e w'=>∃ r,e=.returned (.map (some r))∧w'.heap[r]?=some (.map (sgE 12) 12)∧Below w.heap.size w w':=by
 refine (oo w).mono ?_
 rintro e w1 ⟨rfl,rfl⟩
 exact ⟨_,rfl,d9 _ _,(Below.refl _ _).alloc (Nat.le_refl _) _⟩
theorem wU (a b c d:Int) (w:World) (HW:Hid (dm w)) :
  Calls prog 52 #[.agg #[.int .u8 2,.int .u8 0,.int .i64 0,.string ⟨#[]⟩,.int .i64 a,.int .i64 b,.int .i64 c,.int .i64 d,.int .i64 0,.int .u8 0,.int .i64 0]] w fun e w'=>e=.returned (.string ⟨(im ⟨a,b,c,d⟩).1.toArray⟩)∧Below w.heap.size w w':=by
 obtain ⟨LV,hLV⟩:=ex (im ⟨a,b,c,d⟩)
 have HRF:=keep (fun (w2:World) (hw2:Pow w2)=>show Calls prog 89 #[.agg #[.int .i64 a,.int .i64 b,.int .i64 c,.int .i64 d]] w2 fun e w'=>e=.returned (.tuple #[.string ⟨LV.1.toArray⟩,.int .i64 LV.2])∧Below w2.heap.size w2 w' by rw [← hLV]; exact iR a b c d w2 hw2)
 rw [hLV]
 clear hLV
 have H1:=Lib.hid ((Ok.start w).alloc w.heap.size 39 [.int .u8 2,.int .u8 0,.int .i64 0,.string ⟨#[]⟩,.int .i64 a,.int .i64 b,.int .i64 c,.int .i64 d,.int .i64 0,.int .u8 0,.int .i64 0] rfl)
 go_enter func52,ntmps52
 go_wp2_with fail
 generalize (w.alloc (.cells #[.int .u8 2,.int .u8 0,.int .i64 0,.string ⟨#[]⟩,.int .i64 a,.int .i64 b,.int .i64 c,.int .i64 d,.int .i64 0,.int .u8 0,.int .i64 0] 39))=W2 at H1 ⊢
 refine cM (HRF.out _ (HW.out.below (al (Below.refl _ _) H1.out.bel)).2.1) H1 fun w3 H5=>?_
 clear H1
 have F6:=sE H5
 go_wp2_with fail
 go_ret
 exact ⟨rfl,H5.out.bel⟩
theorem yf (op:Int) (h1:1≤op) (h12:op≤12) (w:World) :
  Calls prog 52 #[.agg #[.int .u8 6,.int .u8 0,.int .i64 0,.string ⟨#[]⟩,.int .i64 0,.int .i64 0,.int .i64 0,.int .i64 0,.int .i64 op,.int .u8 0,.int .i64 0]] w fun e w'=>e=.returned (.string ⟨(fA op).toArray⟩)∧Below w.heap.size w w':=by
 obtain ⟨X,hX⟩:=ex (fA op)
 have HSG:=keep (vi op h1 h12)
 rw [hX] at HSG ⊢
 clear hX h1 h12
 have H1:=Lib.hid ((Ok.start w).alloc w.heap.size 39 [.int .u8 6,.int .u8 0,.int .i64 0,.string ⟨#[]⟩,.int .i64 0,.int .i64 0,.int .i64 0,.int .i64 0,.int .i64 op,.int .u8 0,.int .i64 0] rfl)
 go_enter func52,ntmps52
 go_upto_region 13 with fail
 generalize (w.alloc (.cells #[.int .u8 6,.int .u8 0,.int .i64 0,.string ⟨#[]⟩,.int .i64 0,.int .i64 0,.int .i64 0,.int .i64 0,.int .i64 op,.int .u8 0,.int .i64 0] 39))=W2 at H1 ⊢
 refine wp_region_held_drew (S:=fun W=>Ok w [ac (w.heap.size) 39 [.int .u8 6,.int .u8 0,.int .i64 0,.string ⟨#[]⟩,.int .i64 0,.int .i64 0,.int .i64 0,.int .i64 0,.int .i64 op,.int .u8 0,.int .i64 0]] W) (by kernel_rfl) H1.out.drew (fun hHeld => ?_)
 have H3:=Lib.hid H1.out.drew
 clear H1
 generalize W2.drew=W4 at hHeld H3 ⊢
 refine wt3 1 ?_
 refine wt3 2 ?_
 refine wal 0 fun K hK => ?_
 go_simp
 refine (mU _).mono ?_
 rintro e w5 ⟨r,rfl,hr,hb6⟩
 go_wp2_with fail
 have H7:=Lib.hid (H3.out.below hb6)
 clear hb6 H3
 have hlk:=HSG.out r w5 hr
 clear hr
 refine hK.out _ _ (H7.out) (fun hHeld => ?_)
 clear hK K
 refine wn ?_
 refine wal 3 fun K hK => ?_
 go_simp
 go_wp2_with fail
 clear hlk
 refine hK.out _ _ (H7.out) (fun hHeld => ?_)
 clear hK K
 refine wn ?_
 refine wt3 4 ?_
 refine wpAnyH_done (by kernel_rfl) ?_ _
 clear hHeld
 have F8:=sE H7
 go_wp2_with fail
 go_ret
 exact ⟨rfl,H7.out.bel⟩
set_option maxRecDepth 100000
set_option maxHeartbeats 4000000
theorem qX {w:World} {b o:Nat} (l:List Value) (h:∀ j v,l[j]?=some v→w.cell? ⟨b,o+j,none⟩=some v):ag w b o 0 l:=by
 have key:∀ (m:List Value) (k:Nat),(∀ j v,m[j]?=some v→w.cell? ⟨b,o+(k+j),none⟩=some v)→ag w b o k m:=by
  intro m
  induction m with
  | nil=>intro _ _; exact trivial
  | cons x m ih =>
   intro k hk
   refine ⟨by have:=hk 0 x rfl; rwa [Nat.add_zero] at this,ih (k+1) fun j v hj => ?_⟩
   have:=hk (j+1) v hj
   rwa [show k+(j+1)=k+1+j by omega] at this
 exact key l 0 fun j v hj=>by rw [Nat.zero_add]; exact h j v hj
theorem vo (p q tb tz tl tc kb kn kc k j nk vk:Nat) (vn:Int) (vt:List UInt8) (r1 r2 r3 r4 op:Int) (fn nn:Nat) (least S:Int) (X R:ByteArray) (w:World) (ps:List aS)
  (hok:Ok w (ae p 0 [.slice (some ⟨tb,tz,none⟩) tl tc]::ae q 0 [.slice (some ⟨kb,0,none⟩) kn kc]::ae kb k [.int .i64 (j:Nat)]::ae tb (tz+j * 11) [.int .u8 nk,.int .u8 vk,.int .i64 vn,.string ⟨vt.toArray⟩,.int .i64 r1,.int .i64 r2,.int .i64 r3,.int .i64 r4,.int .i64 op,.int .u8 fn,.int .i64 nn]::ps) w)
  (hk:k<kn) (hj:j<tl) (hX:X.size≤1000000000) (hR:R=⟨#[40]⟩++X++⟨#[41]⟩)
  (HIH:ao (∀ w2,Below w.heap.size w w2→Calls prog 25 #[.slice (some ⟨tb,tz,none⟩) tl tc,.int .i64 (j:Nat)] w2 fun e w'=>e=.returned (.string X)∧Below w2.heap.size w2 w'))
  (HST:ao (∀ w2,Calls prog 51 #[.agg #[.int .u8 nk,.int .u8 vk,.int .i64 vn,.string ⟨vt.toArray⟩,.int .i64 r1,.int .i64 r2,.int .i64 r3,.int .i64 r4,.int .i64 op,.int .u8 fn,.int .i64 nn]] w2 fun e w'=>e=.returned (.int .i64 S)∧Below w2.heap.size w2 w')) (hlt:S<least) :
  Calls prog 50 #[.int .i64 (k:Nat),.int .i64 least,.pointer (some ⟨p,0,none⟩),.pointer (some ⟨q,0,none⟩)] w fun e w'=>e=.returned (.string R)∧Below w.heap.size w w':=by
 have H1:Hid (Ok w [ae p 0 [.slice (some ⟨tb,tz,none⟩) tl tc],ae q 0 [.slice (some ⟨kb,0,none⟩) kn kc],ae kb k [.int .i64 (j:Nat)],ae tb (tz+j * 11) [.int .u8 nk,.int .u8 vk,.int .i64 vn,.string ⟨vt.toArray⟩,.int .i64 r1,.int .i64 r2,.int .i64 r3,.int .i64 r4,.int .i64 op,.int .u8 fn,.int .i64 nn]] w):=Lib.hid (hok.drop _ (by
  intro x hx
  simp only [List.mem_cons,List.not_mem_nil,or_false] at hx ⊢
  rcases hx with h | h | h | h <;> simp [h]))
 clear hok
 have HR:=keep hR
 clear hR
 have hki:(k:Int)<(kn:Int):=by omega
 have hji:(j:Int)<(tl:Int):=by omega
 go_enter func50,ntmps50
 go_upto_region 1 with fail
 refine wp_region_held_drew (S:=fun W=>Ok w [ae p 0 [.slice (some ⟨tb,tz,none⟩) tl tc],ae q 0 [.slice (some ⟨kb,0,none⟩) kn kc],ae kb k [.int .i64 (j:Nat)],ae tb (tz+j * 11) [.int .u8 nk,.int .u8 vk,.int .i64 vn,.string ⟨vt.toArray⟩,.int .i64 r1,.int .i64 r2,.int .i64 r3,.int .i64 r4,.int .i64 op,.int .u8 fn,.int .i64 nn]] W) (by kernel_rfl) H1.out.drew (fun hHeld => ?_)
 refine wt3 0 ?_
 refine wt3 1 ?_
 refine wt3 2 ?_
 refine wt3 3 ?_
 refine wt3 4 ?_
 refine wal 5 fun K hK => ?_
 go_simp
 refine (HIH.out _ hHeld.bel).mono ?_
 rintro e w2 ⟨rfl,hb3⟩
 go_wp2_with fail
 refine hK.out _ _ (hHeld.below hb3) (fun hHeld => ?_)
 clear hK K
 refine wn ?_
 refine wt3 6 ?_
 refine wpAnyH_done (by kernel_rfl) ?_ _
 clear H1
 have H4:=Lib.hid hHeld
 clear hHeld
 have F5:=sE H4
 go_upto_region 2 with fail
 refine wp_region_held_drew (S:=fun W=>Ok w [ae p 0 [.slice (some ⟨tb,tz,none⟩) tl tc],ae q 0 [.slice (some ⟨kb,0,none⟩) kn kc],ae kb k [.int .i64 (j:Nat)],ae tb (tz+j * 11) [.int .u8 nk,.int .u8 vk,.int .i64 vn,.string ⟨vt.toArray⟩,.int .i64 r1,.int .i64 r2,.int .i64 r3,.int .i64 r4,.int .i64 op,.int .u8 fn,.int .i64 nn]] W) (by kernel_rfl) H4.out.drew (fun hHeld => ?_)
 refine wt3 0 ?_
 refine wt3 1 ?_
 refine wt3 2 ?_
 refine wt3 3 ?_
 refine wt3 4 ?_
 refine wt3 5 ?_
 refine wt3 6 ?_
 refine wt3 8 ?_
 refine wal 7 fun K hK => ?_
 go_simp
 refine (HST.out _).mono ?_
 rintro e w7 ⟨rfl,hb8⟩
 go_wp2_with fail
 refine hK.out _ _ (hHeld.below hb8) (fun hHeld => ?_)
 clear hK K
 refine wn ?_
 refine wt3 9 ?_
 refine wpAnyH_done (by kernel_rfl) ?_ _
 clear F5
 clear H4
 have H9:=Lib.hid hHeld
 clear hHeld
 have F10:=sE H9
 go_wp2_with fail
 go_ret
 exact ⟨by rw [HR.out]; rfl,H9.out.bel⟩
theorem vm (p q tb tz tl tc kb kn kc k j nk vk:Nat) (vn:Int) (vt:List UInt8) (r1 r2 r3 r4 op:Int) (fn nn:Nat) (least S:Int) (X R:ByteArray) (w:World) (ps:List aS)
  (hok:Ok w (ae p 0 [.slice (some ⟨tb,tz,none⟩) tl tc]::ae q 0 [.slice (some ⟨kb,0,none⟩) kn kc]::ae kb k [.int .i64 (j:Nat)]::ae tb (tz+j * 11) [.int .u8 nk,.int .u8 vk,.int .i64 vn,.string ⟨vt.toArray⟩,.int .i64 r1,.int .i64 r2,.int .i64 r3,.int .i64 r4,.int .i64 op,.int .u8 fn,.int .i64 nn]::ps) w)
  (hk:k<kn) (hj:j<tl) (hR:R=X)
  (HIH:ao (∀ w2,Below w.heap.size w w2→Calls prog 25 #[.slice (some ⟨tb,tz,none⟩) tl tc,.int .i64 (j:Nat)] w2 fun e w'=>e=.returned (.string X)∧Below w2.heap.size w2 w'))
  (HST:ao (∀ w2,Calls prog 51 #[.agg #[.int .u8 nk,.int .u8 vk,.int .i64 vn,.string ⟨vt.toArray⟩,.int .i64 r1,.int .i64 r2,.int .i64 r3,.int .i64 r4,.int .i64 op,.int .u8 fn,.int .i64 nn]] w2 fun e w'=>e=.returned (.int .i64 S)∧Below w2.heap.size w2 w')) (hlt:¬ S<least) :
  Calls prog 50 #[.int .i64 (k:Nat),.int .i64 least,.pointer (some ⟨p,0,none⟩),.pointer (some ⟨q,0,none⟩)] w fun e w'=>e=.returned (.string R)∧Below w.heap.size w w':=by
 have H1:Hid (Ok w [ae p 0 [.slice (some ⟨tb,tz,none⟩) tl tc],ae q 0 [.slice (some ⟨kb,0,none⟩) kn kc],ae kb k [.int .i64 (j:Nat)],ae tb (tz+j * 11) [.int .u8 nk,.int .u8 vk,.int .i64 vn,.string ⟨vt.toArray⟩,.int .i64 r1,.int .i64 r2,.int .i64 r3,.int .i64 r4,.int .i64 op,.int .u8 fn,.int .i64 nn]] w):=Lib.hid (hok.drop _ (by
  intro x hx
  simp only [List.mem_cons,List.not_mem_nil,or_false] at hx ⊢
  rcases hx with h | h | h | h <;> simp [h]))
 clear hok
 have HR:=keep hR
 clear hR
 have hki:(k:Int)<(kn:Int):=by omega
 have hji:(j:Int)<(tl:Int):=by omega
 go_enter func50,ntmps50
 go_upto_region 1 with fail
 refine wp_region_held_drew (S:=fun W=>Ok w [ae p 0 [.slice (some ⟨tb,tz,none⟩) tl tc],ae q 0 [.slice (some ⟨kb,0,none⟩) kn kc],ae kb k [.int .i64 (j:Nat)],ae tb (tz+j * 11) [.int .u8 nk,.int .u8 vk,.int .i64 vn,.string ⟨vt.toArray⟩,.int .i64 r1,.int .i64 r2,.int .i64 r3,.int .i64 r4,.int .i64 op,.int .u8 fn,.int .i64 nn]] W) (by kernel_rfl) H1.out.drew (fun hHeld => ?_)
 refine wt3 0 ?_
 refine wt3 1 ?_
 refine wt3 2 ?_
 refine wt3 3 ?_
 refine wt3 4 ?_
 refine wal 5 fun K hK => ?_
 go_simp
 refine (HIH.out _ hHeld.bel).mono ?_
 rintro e w2 ⟨rfl,hb3⟩
 go_wp2_with fail
 refine hK.out _ _ (hHeld.below hb3) (fun hHeld => ?_)
 clear hK K
 refine wn ?_
 refine wt3 6 ?_
 refine wpAnyH_done (by kernel_rfl) ?_ _
 clear H1
 have H4:=Lib.hid hHeld
 clear hHeld
 have F5:=sE H4
 go_upto_region 2 with fail
 refine wp_region_held_drew (S:=fun W=>Ok w [ae p 0 [.slice (some ⟨tb,tz,none⟩) tl tc],ae q 0 [.slice (some ⟨kb,0,none⟩) kn kc],ae kb k [.int .i64 (j:Nat)],ae tb (tz+j * 11) [.int .u8 nk,.int .u8 vk,.int .i64 vn,.string ⟨vt.toArray⟩,.int .i64 r1,.int .i64 r2,.int .i64 r3,.int .i64 r4,.int .i64 op,.int .u8 fn,.int .i64 nn]] W) (by kernel_rfl) H4.out.drew (fun hHeld => ?_)
 refine wt3 0 ?_
 refine wt3 1 ?_
 refine wt3 2 ?_
 refine wt3 3 ?_
 refine wt3 4 ?_
 refine wt3 5 ?_
 refine wt3 6 ?_
 refine wt3 8 ?_
 refine wal 7 fun K hK => ?_
 go_simp
 refine (HST.out _).mono ?_
 rintro e w7 ⟨rfl,hb8⟩
 go_wp2_with fail
 refine hK.out _ _ (hHeld.below hb8) (fun hHeld => ?_)
 clear hK K
 refine wn ?_
 refine wt3 9 ?_
 refine wpAnyH_done (by kernel_rfl) ?_ _
 clear F5
 clear H4
 have H9:=Lib.hid hHeld
 clear hHeld
 have F10:=sE H9
 go_wp2_with fail
 go_ret
 exact ⟨by rw [HR.out]; rfl,H9.out.bel⟩
structure f9 (t:List Nd):Prop where
 good:∀ n∈t,aL n∧n.vn≤9223372036854775807
 chk:aI (t.map Nd.any)=0
 len:t.length≤256
 kids:∀ k n,t[k]?=some n→(ai t k).length=aw n
 own:∀ n∈t,∀ w,dm w→Calls prog 52 #[ndA n] w fun e w'=>e=.returned (.string ⟨(cU n).toArray⟩)∧Below w.heap.size w w'
structure TIn (t:List Nd) (tb tz:Nat) (w:World):Prop where
 rows:bi w (some ⟨tb,tz,none⟩) 11 (t.map du)
 env:dm w
theorem TIn.below {t:List Nd} {tb tz:Nat} {w w':World} (h:TIn t tb tz w) (hb:Below w.heap.size w w'):TIn t tb tz w':=⟨h.rows.below hb,h.env.below hb⟩
def eH (t:List Nd) (tb tz tc i:Nat):Prop:=∀ w,TIn t tb tz w →
 Calls prog 25 #[.slice (some ⟨tb,tz,none⟩) t.length tc,.int .i64 (i:Nat)] w fun e w'=>e=.returned (.string ⟨(aR t i).1.toArray⟩)∧Below w.heap.size w w'
theorem TIn.node {t:List Nd} {tb tz:Nat} {w:World} (h:TIn t tb tz w) {i:Nat} {n:Nd} (hn:t[i]?=some n):tb<w.heap.size∧ag w tb (tz+i * 11) 0 (du n):=by
 obtain ⟨b,o,hbo,hlt,hc⟩:=h.rows (by intro e; have h9:=congrArg List.length e; rw [List.length_map] at h9; have:=(List.getElem?_eq_some_iff.1 hn).1; simp only [List.length_nil] at h9; omega)
 simp only [Option.some.injEq,Addr.mk.injEq,and_true] at hbo
 obtain ⟨rfl,rfl⟩:=hbo
 refine ⟨hlt,qX _ fun j v hj => ?_⟩
 have:=hc i (du n) (by rw [List.getElem?_map,hn]; rfl) j v hj
 rwa [← Nat.add_assoc] at this
theorem vN {t:List Nd} {tb tz tc i k l p q B:Nat} {kv:Value} {W:World} (hc:f9 t) (hi:i<t.length) (IH:∀ j,j<i→eH t tb tz tc j) (hin:TIn t tb tz W) (hp:Blk W p 22 #[.slice (some ⟨tb,tz,none⟩) t.length tc]) (hq:Blk W q 57 #[kv])
  (hrow:W.ownsRow B 3 1 kv (ai t i).length ((ai t i).map fun x=>.int .i64 (x:Nat))) (hk:k<(ai t i).length) :
  Calls prog 50 #[.int .i64 (k:Nat),.int .i64 (l:Nat),.pointer (some ⟨p,0,none⟩),.pointer (some ⟨q,0,none⟩)] W fun e w'=>e=.returned (.string ⟨(opT l (aR t (ai t i)[k])).toArray⟩)∧Below W.heap.size W w':=by
 obtain ⟨j,hj⟩:=ex ((ai t i)[k])
 rw [hj]
 have hji:j<i:=eK t i j (by rw [← hj]; exact List.getElem_mem _)
 obtain ⟨n,hn⟩:∃ n,t[j]?=some n:=⟨_,List.getElem?_eq_getElem (by omega)⟩
 have hg:=hc.good n (List.mem_of_getElem? hn)
 obtain ⟨h1,h2⟩:=hin.node hn
 have hcell:=@World.ownsRow.cells _ _ _ _ _ _ _ hrow
 rcases hrow.2 with ⟨rfl,h0⟩ | ⟨g,cap,cur,rfl,h4,h5,h6,h7,h8,h9⟩
 ·omega
 have hkc:=hcell rfl k (.int .i64 (j:Nat)) (by rw [List.getElem?_map,List.getElem?_eq_getElem hk,hj]; rfl)
 rw [show (⟨g,0,none⟩:Addr).add k=⟨g,0+k,none⟩ by unfold Addr.add; split <;> simp_all,Nat.zero_add] at hkc
 have hglt:=(hrow.lt g rfl).2
 have hstr:(aR t j).2=kp n:=by
  rw [j8 hn]
  refine vj n _ ?_
  rcases hg.1 with ⟨_,_,_,rfl,_⟩ | ⟨_,rfl,_⟩ | ⟨_,rfl,_⟩ | rfl | rfl | ⟨_,rfl,_⟩ | ⟨_,_,rfl,_⟩ <;> simp [eu,cj,fz,dt,cN,da]
 obtain ⟨nk,vk,vn,vt,⟨r1,r2,r3,r4⟩,op,fn,nn⟩:=n
 have hok:Ok W (ae p 0 [.slice (some ⟨tb,tz,none⟩) t.length tc]::ae q 0 [.slice (some ⟨g,0,none⟩) (ai t i).length cap]::ae g k [.int .i64 (j:Nat)]::ae tb (tz+j * 11) [.int .u8 nk,.int .u8 vk,.int .i64 vn,.string ⟨vt.toArray⟩,.int .i64 r1,.int .i64 r2,.int .i64 r3,.int .i64 r4,.int .i64 op,.int .u8 fn,.int .i64 nn]::[]) W:=by
  refine ((((Ok.start W).add (ae tb (tz+j * 11) [.int .u8 nk,.int .u8 vk,.int .i64 vn,.string ⟨vt.toArray⟩,.int .i64 r1,.int .i64 r2,.int .i64 r3,.int .i64 r4,.int .i64 op,.int .u8 fn,.int .i64 nn]) ⟨h1,h2⟩).add (ae g k [.int .i64 (j:Nat)]) ⟨hglt,hkc,trivial⟩).add (ae q 0 [.slice (some ⟨g,0,none⟩) (ai t i).length cap]) ⟨hq.lt,?_,trivial⟩).add (ae p 0 [.slice (some ⟨tb,tz,none⟩) t.length tc]) ⟨hp.lt,?_,trivial⟩
  ·exact hq.cell 0
  exact hp.cell 0
 have hih:ao (∀ w2,Below W.heap.size W w2→Calls prog 25 #[.slice (some ⟨tb,tz,none⟩) t.length tc,.int .i64 (j:Nat)] w2 fun e w'=>e=.returned (.string ⟨(aR t j).1.toArray⟩)∧Below w2.heap.size w2 w'):=keep fun w2 hb=>IH j hji w2 (hin.below hb)
 have hst:ao (∀ w2,Calls prog 51 #[.agg #[.int .u8 nk,.int .u8 vk,.int .i64 vn,.string ⟨vt.toArray⟩,.int .i64 r1,.int .i64 r2,.int .i64 r3,.int .i64 r4,.int .i64 op,.int .u8 fn,.int .i64 nn]] w2 fun e w'=>e=.returned (.int .i64 (kp ⟨nk,vk,vn,vt,⟨r1,r2,r3,r4⟩,op,fn,nn⟩:Nat))∧Below w2.heap.size w2 w'):=keep fun w2=>ea ⟨nk,vk,vn,vt,⟨r1,r2,r3,r4⟩,op,fn,nn⟩ hg.1 w2
 by_cases hlt:l≤(aR t j).2
 ·refine vm p q tb tz t.length tc g (ai t i).length cap k j nk vk vn vt r1 r2 r3 r4 op fn nn (l:Nat) _ _ _ W [] hok hk (by omega) ?_ hih hst (by rw [hstr] at hlt; omega)
  unfold opT
  rw [if_pos hlt]
 refine vo p q tb tz t.length tc g (ai t i).length cap k j nk vk vn vt r1 r2 r3 r4 op fn nn (l:Nat) _ _ _ W [] hok hk (by omega) ?_ ?_ hih hst (by rw [hstr] at hlt; omega)
 ·have:=oD t hc.good j (by omega)
  have:=hc.len
  show (aR t j).1.toArray.size≤_
  rw [List.size_toArray]
  omega
 unfold opT
 rw [if_neg hlt]
 show _=(⟨[40].toArray⟩:ByteArray)++⟨(aR t j).1.toArray⟩++⟨[41].toArray⟩
 rw [bytes_append,bytes_append]
 simp
